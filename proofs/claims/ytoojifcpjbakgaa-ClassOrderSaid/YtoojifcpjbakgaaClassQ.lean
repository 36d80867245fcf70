/- slices.AppendSeq, slices.Collect at ranges. -/
import Derived.Test.YtoojifcpjbakgaaClassV
namespace Go.Proofs.Ytoojifcpjbakgaa.Cl
set_option linter.unusedVariables false
set_option linter.unusedSimpArgs false
open Go.RowKit Go.Proofs.Ytoojifcpjbakgaa.C Go.Shelf
attribute [local go_sem] Oper.semAt_some

/-- The cells of ranges. -/
def rgc (l : List Rg) : List Value := l.flatMap fun r => [.int .i64 r.lo, .int .i64 r.hi]
theorem rgc_snoc (l : List Rg) (r : Rg) : rgc (l ++ [r]) = rgc l ++ [.int .i64 r.lo, .int .i64 r.hi] := by simp [rgc]
theorem rgc_len : ∀ l : List Rg, (rgc l).length = l.length * 2
  | [] => rfl
  | r :: l => by simp only [rgc, List.flatMap_cons, List.length_append, List.length_cons, List.length_nil]; have := rgc_len l; simp only [rgc] at this; omega
theorem rgc_row {w : World} {S : Nat → Prop} : ∀ {l : List Rg}, (∀ r ∈ l, r.wf) → Ty.Row rgK w S l (rgc l)
  | [], _ => Ty.Row.nil _ _ _
  | r :: l, h => by
    have := Ty.Row.append (Ty.Row.one_ (rg_shut (w := w) (S := S) (h r (List.mem_cons_self ..)))) (rgc_row (w := w) (S := S) (l := l) (fun q hq => h q (List.mem_cons_of_mem _ hq)))
    exact this
theorem info46 : (Try.prog.info? 46).map (fun i => (i.zero, i.size, i.bytes)) = some (some (.agg #[.int .i64 0, .int .i64 0]), 2, 16) := by kernel_rfl

set_option maxRecDepth 100000 in
set_option maxHeartbeats 4000000 in
theorem appendSeq_in (F : Fence) (n : Nat) (h47 : F.fn 47) (h45 : F.fn 45) (hro : F.round = none) (hn : 6 ≤ n) (Bs len cap : Nat) (A : Option Addr) (zs : List Rg) (hlen : len ≤ 1000000) (w : World) (hBs : Bs < w.heap.size)
    (hc : w.cell? ⟨Bs, 0, none⟩ = some (.slice A len cap)) (hI : Ty.At rgK w (fun k => k < w.heap.size) A len cap zs) :
    CallsIn F n Try.prog 47 #[.slice none 0 0, .func (.func 45) #[] #[.pointer (some ⟨Bs, 0, none⟩)]] w fun e W' => ∃ v, e = .returned v ∧ W'.ownsRow w.heap.size 46 2 v zs.length (rgc zs) ∧ Below w.heap.size w W' := by
  have h1 : 1 ≤ n := by omega
  have HZL := hid hI.1
  refine callsIn_of_wp_marks Try.func47 rfl h47 ?_ hro
  simp only [Try.ntmps47, List.size_toArray, List.length_cons, List.length_nil, Nat.reduceAdd, Nat.reduceSub, Array.replicate_succ, Array.replicate_zero, List.push_toArray, List.append_toArray, List.nil_append, List.cons_append]
  gi_wp2
  have bS := Boxed.new w 22 (.slice none 0 0)
  have hB0 : Below w.heap.size w (w.alloc (.cells #[.slice none 0 0] 22)) := (Below.refl _ w).alloc (Nat.le_refl _) _
  have hsz : (w.alloc (.cells #[.slice none 0 0] 22)).heap.size = w.heap.size + 1 := by simp
  obtain ⟨W0, hW0⟩ : ∃ W0, w.alloc (.cells #[.slice none 0 0] 22) = W0 := ⟨_, rfl⟩
  rw [hW0] at bS hB0 hsz ⊢
  clear hW0
  refine wpIn_rangeFunc_ownH hro h1 (gf := 45) (lb := #[.pointer (some ⟨Bs, 0, none⟩)]) rfl h45 (enters_of Try.func45 (by kernel_rfl) rfl)
    (values_stops F (n - 1) h45 hro (by omega) Bs w.heap.size A len cap zs hlen W0 (by omega) (by omega) (hB0.cell (p := ⟨Bs, 0, none⟩) hBs |>.trans hc) (hI.chg (Chg.of_below hB0) (fun k h1 h2 => by omega))) belowK_t (belowK_b (by omega)) (Below.refl _ _) (fun _ => rfl)
    (fun pre W => (∃ v, Boxed W w.heap.size 22 v ∧ W.ownsRow w.heap.size 46 2 v pre.length (rgc pre) ∧ True) ∧ Below w.heap.size w W)
    (fun _ _ _ => False)
    (OwnFrom.and (Own.from (holdsRow_own w.heap.size w.heap.size 22 46 2 (fun pre : List Rg => pre.length) (fun pre => rgc pre) (fun _ _ => True)) _) (ownFrom_below (Nat.le_refl _) (by omega)))
    (fun _ _ _ _ _ hs _ _ => hs)
    ⟨⟨_, bS, World.ownsRow_nil _ _ _ _, trivial⟩, hB0⟩
    (fun x a' W => ∃ Bx, w.heap.size < Bx ∧ W.heap[Bx]? = some (.cells #[.int .i64 x.lo, .int .i64 x.hi] 46 (0, 0)) ∧ a' = { tmps := #[.slice none 0 0, .func (.func 45) #[] #[.pointer (some ⟨Bs, 0, none⟩)], .pointer (some ⟨w.heap.size, 0, none⟩), undef, .slice none 0 0, .pointer (some ⟨Bx, 0, none⟩), .func (.func 45) #[] #[.pointer (some ⟨Bs, 0, none⟩)], .agg #[.int .i64 x.lo, .int .i64 x.hi], undef, undef, undef, undef, undef], defers := [] })
    ?hAx ?assign ?body ?done ?stop
  case hAx =>
    intro x a' _ X Y row hs hg hr
    obtain ⟨Bx, q1, q2, q3⟩ := hs
    exact ⟨Bx, q1, (hg.block Bx (lt_of_blk q2) (fun e => by
      obtain ⟨_, o, ho, hcc⟩ := hr Bx e.symm
      rw [q2] at ho
      cases ho
      cases hcc)).trans q2, q3⟩
  case assign =>
    rintro l pre x W K ⟨⟨v, b1, r1, _⟩, hB1⟩ hK
    gi_wp2
    exact hK _ _ ((KeepsOthers.alloc _ _).from _) ((Below.refl _ W).alloc hB1.size _) ⟨⟨v, b1.alloc _, r1.alloc _, trivial⟩, hB1.alloc hB1.size _⟩ ⟨W.heap.size, b1.lt, blk_new W _, rfl⟩
  case body =>
    rintro l pre x a' W hl ⟨r, hr⟩ ⟨⟨v, b1, hrow, _⟩, hB1⟩ ⟨Bx, hBx, hX, rfl⟩ hlt
    have c0 := b1.cell
    have x0 : W.cell? ⟨Bx, 0, none⟩ = some (.int .i64 x.lo) := by rw [cellAt hX]; rfl
    have x1 : W.cell? ⟨Bx, 1, none⟩ = some (.int .i64 x.hi) := by rw [cellAt hX]; rfl
    obtain ⟨i0, hi, hz0, hz1, hz2⟩ := info_parts info46
    have hcl : ∀ j u, ([Value.int .i64 x.lo, .int .i64 x.hi])[j]? = some u → (W.alloc (.cells #[.int .i64 x.lo, .int .i64 x.hi] 46)).cell? ((⟨W.heap.size, 0, none⟩ : Addr).add j) = some u := fun j u hj => by
      rw [add_at, Nat.zero_add, cellAt (blk_new W _)]
      simpa using hj
    have HCL := hid hcl
    have HROW := hid hrow
    have HB := hid hB1
    have HBX := hid b1
    clear hcl hX hr hrow hB1 hI hc
    gi_wp2_with (gi_at_builtin; refine wpListIn_append_own _ rfl (.tmp 8) (.tmp 10) 22 rfl w.heap.size 46 i0 (.agg #[.int .i64 0, .int .i64 0]) 2 16 Try.underlying22 hi hz0 hz1 hz2 rfl (by decide) v pre.length (rgc pre) rfl (HROW.out.alloc _) ⟨W.heap.size, 0, none⟩ 1 1 [.int .i64 x.lo, .int .i64 x.hi] rfl rfl HCL.out (by simp [Value.oneCell']) (by simp [maxLen]; omega) (by omega) (by have := HB.out.size; simp; omega) ?_; intro v' w1 hown' hgrow _; obtain ⟨g', cap', rfl⟩ := ownsRow_succ hown'; obtain ⟨hv1, hv2, hr2, hk2, hb2⟩ := HBX.out.appended (by decide) HROW.out HB.out.size (Nat.le_refl _) hown' hgrow; have hc1 := hv1.cell; have hf1 := hv1.frozen)
    exact ⟨hk2.from _, hb2, ⟨_, hv2, by rw [rgc_snoc, List.length_append]; exact hr2, trivial⟩, HB.out.trans hb2⟩
  case done =>
    rintro D ys W hD rfl ⟨⟨v, b1, hrow, _⟩, hB1⟩ hK
    have cS := b1.cell
    gi_wp2
    refine ⟨by simp, .inl ⟨_, _, rfl, run_takeDeferred hK, ?_⟩⟩
    exact ⟨_, results_tmp rfl _ _ _, v, rfl, ownsRow_putObj hrow _ hK rfl, hB1.trans (belowK_b (w := w) (Nat.le_refl _) W D _ _ (by omega) hK rfl rfl)⟩
  case stop =>
    rintro D c pre W _ _ h _
    exact h.elim

/-- slices.Collect of slices.Values. -/
theorem collect_any (Bs len cap : Nat) (A : Option Addr) (zs : List Rg) (hlen : len ≤ 1000000) (w : World) (hBs : Bs < w.heap.size) (hc : w.cell? ⟨Bs, 0, none⟩ = some (.slice A len cap)) (hI : Ty.At rgK w (fun k => k < w.heap.size) A len cap zs) :
    Calls Try.prog 43 #[.func (.func 45) #[] #[.pointer (some ⟨Bs, 0, none⟩)]] w fun e w' => ∃ v, e = .returned v ∧ w'.ownsRow w.heap.size 46 2 v zs.length (rgc zs) ∧ Below w.heap.size w w' := by
  have H := hid (callsIn_wide.1 (appendSeq_in Fence.wide 6 trivial trivial rfl (Nat.le_refl _) Bs len cap A zs hlen w hBs hc hI))
  clear hc hI
  go_enter Try.func43, Try.ntmps43
  go_wp2_with fail
  refine H.out.mono ?_
  rintro e w2 ⟨v, rfl, h1, h2⟩
  go_wp2_with fail
  go_ret
  exact ⟨_, rfl, h1, h2⟩
end Go.Proofs.Ytoojifcpjbakgaa.Cl
