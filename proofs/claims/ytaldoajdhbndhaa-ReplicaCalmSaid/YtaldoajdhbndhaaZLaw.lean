/- The law with its walk: WReplicaCalm, LawReplicaCalm. -/
import Derived.Test.YtaldoajdhbndhaaRows
import Derived.Test.YtaldoajdhbndhaaMG
import Derived.Below
import Derived.Deep.Draws
import Derived.Deep.AppendLies
import Derived.Maps.AppendAt
import Derived.OwnWalk
import Derived.Laws.BytesArg
import Derived.Laws.MakeOwn
import Derived.Laws.OwnMore
import Derived.Deep.OwnRows
import Derived.Tactics
import Derived.Lib.ConvBytes
import Derived.Laws.Slices
import Derived.WalkKit
import Derived.KernelRfl
import Derived.RowKit3
import Derived.Deep.LoopGhost
import Derived.Deep.QuietTactic
import Derived.BigQuiet
import Derived.WideLaws
import Derived.Deep.DeepCutAuto
import Derived.Deep.CutBlock
import Derived.Deep.RegionHeld3
import Derived.Deep.RegionLaw
import Derived.StillTailTactics
import Derived.Laws.Rows
import Derived.Lib.AppendStr
import Derived.ArgAppend
import Derived.Laws.IdiomCopy
import Derived.OrdersHeld
import Derived.Laws.BitsLemmas
import Derived.Laws.BitsAllLaws
import Derived.WalkSpells
import Derived.Lib.LazyBuf
import Derived.RowKit
import Derived.ProofKit
import Derived.Deep.Slices
import Derived.IntWalk
import Derived.Shelf.Abstract
import Derived.Laws.StructEq
import Derived.Lib.SlBytesConst
import Derived.WalkMore
import Derived.Deep.WholeRow
import Derived.Maps.Keyed
import Derived.Maps.RangeRun
import Derived.ChangeMaps5
import Derived.Carry
import Derived.OpenShut
import Derived.ShutString
import Derived.ChangeOld
import Derived.SizedLaws

/- The law of replicas that nothing befalls: the walk. -/

namespace Go.Proofs.Ytaldoajdhbndhaa.Pa

set_option linter.unusedVariables false

set_option linter.unusedSimpArgs false

open Go.RowKit Go.Proofs.Ytaldoajdhbndhaa.C

attribute [local go_sem] max2_int min2_int max_two min_two

set_option maxHeartbeats 4000000 in
set_option maxRecDepth 100000 in
theorem ReplicaCalm_walk (w : World) (n : Int) (hn : (Lit.int .i64 n).wf = true) (L : Option Addr) (ln lc : Nat) (l : List Int) (hl : Ty.At (Ty.int .i64) w (fun k => k < w.heap.size) L ln lc l) :
    Calls Try.prog 8 #[.int .i64 n, .slice L ln lc] w fun e w' => e = .returned (.bool true) ∧ Below w.heap.size w w' := by
  by_cases n3 : n = 3
  · subst n3; exact calm_any (N := 3) (.inl rfl) hl
  by_cases n5 : n = 5
  · subst n5; exact calm_any (N := 5) (.inr (.inl rfl)) hl
  by_cases n7 : n = 7
  · subst n7; exact calm_any (N := 7) (.inr (.inr rfl)) hl
  have hlm : (ln : Int) ≤ 9223372036854775807 := by have h1 := hl.2.1; have h2 := hl.2.2.1; simp only [maxLen] at h2; omega
  clear hl hn
  go_enter Try.func8, Try.ntmps8
  go_wp2_with fail
  refine (anchor15_any w).mono ?_
  rintro e w1 ⟨rfl, k1⟩
  have C1 := hid k1
  clear k1
  have n3b : (n != 3) = true := by simp [n3]
  have n5b : (n != 5) = true := by simp [n5]
  have n7b : (n != 7) = true := by simp [n7]
  go_wp2_with fail
  go_ret
  exact ⟨rfl, C1.out.below (Nat.le_refl _) (fun _ h => h.elim)⟩
end Go.Proofs.Ytaldoajdhbndhaa.Pa

/- The row of the law ReplicaCalm, out of its walk: for every input that can be read the law returns true, and each argument reads behind the call as it did. -/
namespace Go.Proofs.Ytaldoajdhbndhaa.replicaCalm
open Go.ChangeShapes Go.WideShapes Go.ChangeAt Go.RowKit
open Go.ChangeMaps (open_string shut_string)
set_option linter.unusedVariables false
theorem own : ownKnob Try.prog.godebug = none := by kernel_rfl
theorem laidOut : laidOutB Try.prog = true := by kernel_rfl
set_option maxRecDepth 100000 in
theorem lifted (os : Os) (started : os.Started) (H : Type) (enc : TypeId × Value → H) :
    ReturnsInHanded {} Try.checked os 8 .any (Rows.replicaCalmSpec.pre6 enc Try.prog Try.f8 Rows.replicaCalmRow.domain false) (Rows.replicaCalmSpec.post enc Try.prog Try.f8 false true false false) := by
  refine returnsInHanded_of_change_sized (C := Try.checked) own started (by kernel_rfl) Try.func8
    (ChangeSpec.witness6 (enc := enc) (C := Try.checked) false ⟨#[], #[.int .i64 0, .slice none 0 0], []⟩ 8 (by kernel_rfl) (by kernel_rfl) (by kernel_rfl) (by kernel_rfl)) ?_
  intro W base args ds gs before hval0 hW hcnd hsz0 _
  have hval : ∀ (j : Nat) t v, Try.f8.params[j]? = some t → args[j]? = some v → Value.okWide Try.prog W .any base t v := hval0
  have hW' := hW
  obtain ⟨p, q, hA0, hV, rfl, hfz, hnd⟩ := hW
  have hA : DataW.TrodAll enc Try.prog W 0 (fun _ => true) true Try.f8.params.toList args.toList ds p := hA0
  rw [Try.params8] at hA hval
  obtain ⟨v0, vs0, d0, ds0, p0, q0, hargs, rfl, rfl, h0, r0⟩ := trodAll_cons hA
  obtain ⟨v1, vs1, d1, ds1, p1, q1, rfl, rfl, rfl, h1, r1⟩ := trodAll_cons r0
  obtain ⟨rfl, rfl, rfl⟩ := trodAll_nil r1
  obtain rfl : args = #[v0, v1] := by cases args; simp_all
  obtain ⟨rfl, rfl⟩ := trodVars_none hV
  obtain ⟨a0, rfl, rfl, rfl, w0⟩ := open_int Try.underlying3 (hval 0 3 v0 rfl rfl) h0
  have k1 := h1
  have lt1 : ∀ x ∈ p1, x.block < W.heap.size := by obtain ⟨m, hm⟩ := k1; exact DataW.trod_lt m _ _ _ hm
  obtain ⟨a1, len1, cap1, rfl⟩ := okWide_slice Try.underlying52 (hval 1 52 v1 rfl rfl)
  obtain ⟨z1, w1⟩ : ∃ xs, C.Ty.At _ W (fun k => k < W.heap.size) a1 len1 cap1 xs := by
    obtain ⟨fuel, hf⟩ := h1
    obtain ⟨xs, A, n, c, hcs, hx⟩ := Pa.opens_nums.opens enc W _ _ fuel _ _ hf
    simp [Value.cells] at hcs
    obtain ⟨rfl, rfl, rfl⟩ := hcs
    exact ⟨xs, hx⟩
  clear hA0 hval0 hsz0
  refine (Pa.ReplicaCalm_walk W a0 w0 a1 len1 cap1 z1 w1).mono fun e W' ⟨he, bel⟩ => ?_
  subst he
  exact ⟨_, rfl, _, _, _, [], _, [], hW', trodAll_mk1 (shut_bool (Try.underlying4) _), (trodAll_cons_mk (shut_int Try.underlying3 w0) (trodAll_cons_mk (Below.trod laidOut (by kernel_rfl) (of_decide_eq_true (by kernel_rfl)) k1 bel lt1) trodAll_mk0)), rfl, bel.frame _, fun h => by cases h⟩
theorem over : Rows.replicaCalmRow.holds Try.pinned (OpenSpec.ofChange Rows.replicaCalmSpec) :=
  OpenClaim.holds_of_wide 8 Try.f8 rfl rfl rfl rfl rfl rfl rfl ⟨rfl, rfl, rfl, rfl, rfl⟩ rfl rfl rfl rfl rfl (by kernel_rfl) Try.func8 (by kernel_rfl)
    (of_decide_eq_true (by kernel_rfl)) (by unfold Func.isWrapper; first | (rw [if_pos (by decide +kernel)]; kernel_rfl) | (rw [if_neg (by decide +kernel)]; exact ⟨rfl, rfl⟩))
    (fun os started H enc _ => lifted os started H enc)
end Go.Proofs.Ytaldoajdhbndhaa.replicaCalm
namespace Go.Proofs.Ytaldoajdhbndhaa
theorem replicaCalm_holds : Rows.ReplicaCalmSaid := replicaCalm.over
#print axioms replicaCalm_holds
end Go.Proofs.Ytaldoajdhbndhaa
