/- The law with its walk: WReplicaSays, LawReplicaSays. -/
import Derived.Test.YtaldoajdhbndhaaRows
import Derived.Test.YtaldoajdhbndhaaMG
import Derived.Below
import Derived.Deep.Draws
import Derived.Deep.AppendLies
import Derived.Maps.AppendAt
import Derived.OwnWalk
import Derived.Laws.BytesArg
import Derived.Laws.MakeOwn
import Derived.Laws.OwnMore
import Derived.Deep.OwnRows
import Derived.Tactics
import Derived.Lib.ConvBytes
import Derived.Laws.Slices
import Derived.WalkKit
import Derived.KernelRfl
import Derived.RowKit3
import Derived.Deep.LoopGhost
import Derived.Deep.QuietTactic
import Derived.BigQuiet
import Derived.WideLaws
import Derived.Deep.DeepCutAuto
import Derived.Deep.CutBlock
import Derived.Deep.RegionHeld3
import Derived.Deep.RegionLaw
import Derived.StillTailTactics
import Derived.Laws.Rows
import Derived.Lib.AppendStr
import Derived.ArgAppend
import Derived.Laws.IdiomCopy
import Derived.OrdersHeld
import Derived.Laws.BitsLemmas
import Derived.Laws.BitsAllLaws
import Derived.WalkSpells
import Derived.Lib.LazyBuf
import Derived.RowKit
import Derived.ProofKit
import Derived.Deep.Slices
import Derived.IntWalk
import Derived.Shelf.Abstract
import Derived.Laws.StructEq
import Derived.Lib.SlBytesConst
import Derived.WalkMore
import Derived.Deep.WholeRow
import Derived.Maps.Keyed
import Derived.Maps.RangeRun
import Derived.ChangeMaps5
import Derived.Carry
import Derived.OpenShut
import Derived.ShutString
import Derived.ChangeOld
import Derived.SizedLaws

/- The walk of the law ReplicaSays. -/

namespace Go.Proofs.Ytaldoajdhbndhaa.Pa

set_option linter.unusedVariables false

set_option linter.unusedSimpArgs false

open Go.RowKit Go.Proofs.Ytaldoajdhbndhaa.C

attribute [local go_sem] max2_int min2_int max_two min_two

set_option maxHeartbeats 4000000 in
set_option maxRecDepth 100000 in
theorem ReplicaSays_walk (w : World) (ca : Array Value) (x : Int × Int × Int) (hx : cfgK.K w (fun k => k < w.heap.size) x ca.toList) (cs : Array Value) (s : St) (hs : stK.K w (fun k => k < w.heap.size) s cs.toList) (L : Option Addr) (ln lc : Nat) (l : List OpR) (hl : Ty.At opK w (fun k => k < w.heap.size) L ln lc l) :
    Calls Try.prog 5 #[.agg ca, .agg cs, .slice L ln lc] w fun e w' => e = .returned (.bool true) ∧ Below w.heap.size w w' := by
  obtain ⟨rfl, hnw⟩ := cfg_open hx
  obtain ⟨A, n, c, rfl, hlg, hsw⟩ := st_open hs
  have HNW := hid hnw
  obtain ⟨bs, hbs⟩ : ∃ q_, q_ = w.heap.size + 1 := ⟨_, rfl⟩
  obtain ⟨w1, hw1⟩ : ∃ q_, q_ = ((w.alloc (.cells #[.int .i64 x.1, .int .i64 x.2.1, .int .i64 x.2.2] 23)).alloc (.cells #[.int .i64 s.view, .int .i64 s.normal, .int .i64 s.commit, .int .i64 s.active, .slice A n c] 26)) := ⟨_, rfl⟩
  have C1 := hid (show Chg (fun _ => False) w w1 by rw [hw1]; exact ((Chg.refl _ w).alloc _).alloc _)
  have BC := hid (show w1.heap[w.heap.size]? = some (.cells #[.int .i64 x.1, .int .i64 x.2.1, .int .i64 x.2.2] 23 (0, 0)) by
    rw [hw1]
    refine blk_alloc ?_ _
    have := blk_new w (.cells #[.int .i64 x.1, .int .i64 x.2.1, .int .i64 x.2.2] 23)
    simpa using this)
  have BS := hid (show w1.heap[bs]? = some (.cells #[.int .i64 s.view, .int .i64 s.normal, .int .i64 s.commit, .int .i64 s.active, .slice A n c] 26 (0, 0)) by
    rw [hw1, hbs]
    have := blk_new (w.alloc (.cells #[.int .i64 x.1, .int .i64 x.2.1, .int .i64 x.2.2] 23)) (.cells #[.int .i64 s.view, .int .i64 s.normal, .int .i64 s.commit, .int .i64 s.active, .slice A n c] 26)
    simpa using this)
  have ne01 : w.heap.size ≠ bs := by omega
  have ne10 : bs ≠ w.heap.size := by omega
  have Hbs := hid hbs
  have ltbs : w.heap.size < bs := by omega
  have SZ := hid (show w1.heap.size = w.heap.size + 2 by rw [hw1]; simp)
  have HL := hid (hlg.chg C1.out (fun _ _ h => h))
  have HLL := hid hl
  have LN := hid hl.1
  have hlnb : (ln : Int) ≤ 9223372036854775807 := by have q1 := hl.2.1; have q2 := hl.2.2.1; simp [maxLen] at q2; omega
  clear hx hs hlg hl hsw hnw
  go_enter Try.func5, Try.ntmps5
  go_wp2_with fail
  rw [← hbs, ← hw1]
  clear hw1 hbs
  refine (anchor15_any w1).mono ?_
  rintro e w2 ⟨rfl, k2⟩
  have CC := hid (C1.out.trans k2 (fun _ h _ => h))
  replace BC := hid (k2.blk BC.out (fun h => h))
  replace BS := hid (k2.blk BS.out (fun h => h))
  replace HL := hid (HL.out.chg k2 (fun _ _ h => h))
  clear k2
  have S_0 : w2.cell? ⟨bs, 0, none⟩ = some (.int .i64 s.view) := (cellAt BS.out 0).trans rfl
  have S_1 : w2.cell? ⟨bs, 1, none⟩ = some (.int .i64 s.normal) := (cellAt BS.out 1).trans rfl
  have S_2 : w2.cell? ⟨bs, 2, none⟩ = some (.int .i64 s.commit) := (cellAt BS.out 2).trans rfl
  have S_3 : w2.cell? ⟨bs, 3, none⟩ = some (.int .i64 s.active) := (cellAt BS.out 3).trans rfl
  have S_4 : w2.cell? ⟨bs, 4, none⟩ = some (.slice A n c) := (cellAt BS.out 4).trans rfl
  go_wp2_with fail
  clear S_0 S_1 S_2 S_3 S_4
  refine (small15_any HL.out (HLL.out.chg CC.out (fun _ _ h => h)) 40).mono ?_
  rintro e w3 ⟨rfl, k3⟩
  replace CC := hid (CC.out.trans k3 (fun _ h _ => h))
  replace BC := hid (k3.blk BC.out (fun h => h))
  replace BS := hid (k3.blk BS.out (fun h => h))
  replace HL := hid (HL.out.chg k3 (fun _ _ h => h))
  clear k3
  cases hsm : small15 s l 40
  · go_wp2_with fail
    go_ret
    exact ⟨rfl, CC.out.below (Nat.le_refl _) (fun _ h => h.elim)⟩
  have HSM := hid (small15_iff hsm)
  have HN7 := hid (show n ≤ 1000000 by have h1 := HL.out.1; have h2 := smallR_len HSM.out.2; omega)
  have HLN := hid (show ln ≤ 1000 by have h1 := HSM.out.1; have h2 := LN.out; omega)
  have HC0 := hid (lt_of_blk BC.out)
  have HC1 := hid (lt_of_blk BS.out)
  clear hsm
  have C_0 : w3.cell? ⟨w.heap.size, 0, none⟩ = some (.int .i64 x.1) := (cellAt BC.out 0).trans rfl
  have C_1 : w3.cell? ⟨w.heap.size, 1, none⟩ = some (.int .i64 x.2.1) := (cellAt BC.out 1).trans rfl
  have C_2 : w3.cell? ⟨w.heap.size, 2, none⟩ = some (.int .i64 x.2.2) := (cellAt BC.out 2).trans rfl
  have S_0 : w3.cell? ⟨bs, 0, none⟩ = some (.int .i64 s.view) := (cellAt BS.out 0).trans rfl
  have S_1 : w3.cell? ⟨bs, 1, none⟩ = some (.int .i64 s.normal) := (cellAt BS.out 1).trans rfl
  have S_2 : w3.cell? ⟨bs, 2, none⟩ = some (.int .i64 s.commit) := (cellAt BS.out 2).trans rfl
  have S_3 : w3.cell? ⟨bs, 3, none⟩ = some (.int .i64 s.active) := (cellAt BS.out 3).trans rfl
  have S_4 : w3.cell? ⟨bs, 4, none⟩ = some (.slice A n c) := (cellAt BS.out 4).trans rfl
  go_wp2_with fail
  clear C_0 C_1 C_2 S_0 S_1 S_2 S_3 S_4
  refine (rnew_any (R := fun k => k < w.heap.size) HL.out HN7.out HNW.out).mono ?_
  rintro e wn (⟨_, rfl, hc⟩ | ⟨hcf, hst, p, b1, b2, b3, A9, n9, c9, rfl, hM, hR, hc⟩)
  · have CN := hid (CC.out.trans hc (fun _ h _ => h))
    clear hc
    go_wp2_with fail
    go_ret
    exact ⟨rfl, CN.out.below (Nat.le_refl _) (fun _ h => h.elim)⟩
  have HM4 := hid (show ∀ k, M4 p b1 b2 b3 k → w3.heap.size ≤ k from fun k hk => (hM k hk).1)
  have HSZ := hid (show w.heap.size ≤ w3.heap.size from CC.out.size)
  have Q := hid (show RQ wn p b1 b2 b3 (M4 p b1 b2 b3) (newR x.1 x.2.1 x.2.2 s) from (RQ.mk (RpOk.new hcf hst) rfl ⟨A9, n9, c9, hR⟩).less (fun k hk => hk) (fun k hk => .inl hk))
  have KK := hid (show Chg (M4 p b1 b2 b3) w wn from (CC.out.trans hc (fun _ h _ => h)).mono (fun _ h _ => h.elim))
  have HFIN := hid (show ∀ w', Chg (M4 p b1 b2 b3) w w' → Below w.heap.size w w' from fun w' h => h.below (Nat.le_refl _) (fun k hk => Nat.le_trans HSZ.out (HM4.out k hk)))
  have HCF := hid hcf
  have HST := hid hst
  have WNS := hid (show ∀ k, M4 p b1 b2 b3 k → k < wn.heap.size from fun k hk => (hM k hk).2)
  have HP4 := hid (show w3.heap.size ≤ wn.heap.size from hc.size)
  have HBSL := hid (show bs < wn.heap.size from Nat.lt_of_lt_of_le (lt_of_blk BS.out) hc.size)
  have MB := hid (show ∀ k, M4 p b1 b2 b3 k → w.heap.size ≤ k from fun k hk => Nat.le_trans HSZ.out (HM4.out k hk))
  replace BC := hid (hc.blk BC.out (fun h => h))
  replace BS := hid (hc.blk BS.out (fun h => h))
  have HBC := hid (show ¬ M4 p b1 b2 b3 w.heap.size from fun e => by have h1 := HM4.out _ e; have h2 := lt_of_blk BC.out; have h3 := HC0.out; omega)
  have HBS := hid (show ¬ M4 p b1 b2 b3 bs from fun e => by have h1 := HM4.out _ e; have h3 := HC1.out; omega)
  clear hcf hst hM hR hc
  obtain ⟨r0, hr0⟩ : ∃ q_, q_ = newR x.1 x.2.1 x.2.2 s := ⟨_, rfl⟩
  have HR0 := hid (show r0.quiet = 0 ∧ r0.n = x.1 ∧ r0.id = x.2.1 by rw [hr0]; exact ⟨rfl, rfl, rfl⟩)
  rw [← hr0] at Q
  clear hr0
  go_wp2_with fail
  go_loopw [33] (fun i wr => ∃ (q : Nat) (r : Rp), q ≤ ln ∧ i = .int .i64 q ∧ RQ wr p b1 b2 b3 (M4 p b1 b2 b3) r ∧ (0 ≤ r.quiet ∧ r.quiet ≤ (q : Int)) ∧ (r.n = x.1 ∧ r.id = x.2.1) ∧ Chg (M4 p b1 b2 b3) wn wr) (fun i _ => ln - (intOf i).toNat)
  case atStart => exact ⟨0, r0, Nat.zero_le _, rfl, Q.out, by rw [HR0.out.1]; exact ⟨Int.le_refl _, Int.le_refl _⟩, HR0.out.2, Chg.refl _ _⟩
  case round =>
    revert hrel; revert wr; intro wr hrel
    obtain ⟨q, r, hq, rfl, hQ, hqt, hcf, hC⟩ := hrel
    have QQ := hid hQ
    have HC := hid hC
    have HQT := hid (show 0 ≤ r.quiet ∧ r.quiet ≤ 1000000 by have h1 := HLN.out; omega)
    have HQT2 := hid hqt
    have HCFG := hid hcf
    have BCr := hid (hC.blk BC.out HBC.out)
    clear hQ hC hqt hcf
    have CW := hid (show Chg (M4 p b1 b2 b3) w wr from KK.out.trans HC.out (fun _ h _ => h))
    by_cases hlt : q < ln
    · have hlt2 : (q : Int) < (ln : Int) := by omega
      have HLTQ := hid hlt
      obtain ⟨o, hx⟩ : ∃ o, l[q]? = some o := ⟨_, List.getElem?_eq_getElem (by have := LN.out; omega)⟩
      obtain ⟨a, cs, ha, haR, hK, hcs⟩ := (HLL.out.chg CW.out (fun k hk e => by have h1 : k < w.heap.size := hk; have := MB.out k e; omega)).get (by decide) hx
      obtain ⟨E1, m1, d1, E2, m2, d2, B, k, d, rfl, hent, hmsg, _⟩ := op_open (id hK)
      subst ha
      have HCS := hid (show ∀ j v, ([.int .i64 o.kind, .int .i64 o.entry.view, .int .i64 o.entry.client, .int .i64 o.entry.request, .int .i64 o.entry.dflt, .int .i64 o.entry.closed, .int .i64 o.entry.fuel, .int .i64 o.entry.stack, .slice E1 m1 d1, .slice E2 m2 d2, .int .i64 o.msg.kind, .int .i64 o.msg.view, .int .i64 o.msg.src, .int .i64 o.msg.dst, .int .i64 o.msg.op, .int .i64 o.msg.commit, .int .i64 o.msg.normal, .slice B k d] : List Value)[j]? = some v → wr.cell? ((a.add (q * 18)).add j) = some v from fun j v hj => by rw [C.add_add]; exact hcs j v hj)
      have HEN := hid hent
      have HMS := hid hmsg
      obtain ⟨W1, hW1⟩ : ∃ W1, W1 = wr.alloc (.cells #[.int .i64 o.kind, .int .i64 o.entry.view, .int .i64 o.entry.client, .int .i64 o.entry.request, .int .i64 o.entry.dflt, .int .i64 o.entry.closed, .int .i64 o.entry.fuel, .int .i64 o.entry.stack, .slice E1 m1 d1, .slice E2 m2 d2, .int .i64 o.msg.kind, .int .i64 o.msg.view, .int .i64 o.msg.src, .int .i64 o.msg.dst, .int .i64 o.msg.op, .int .i64 o.msg.commit, .int .i64 o.msg.normal, .slice B k d] 58) := ⟨_, rfl⟩
      have CW1 := hid (show Chg (fun _ => False) wr W1 by rw [hW1]; exact (Chg.refl _ wr).alloc _)
      have BW1 := hid (show W1.heap[wr.heap.size]? = some (.cells #[.int .i64 o.kind, .int .i64 o.entry.view, .int .i64 o.entry.client, .int .i64 o.entry.request, .int .i64 o.entry.dflt, .int .i64 o.entry.closed, .int .i64 o.entry.fuel, .int .i64 o.entry.stack, .slice E1 m1 d1, .slice E2 m2 d2, .int .i64 o.msg.kind, .int .i64 o.msg.view, .int .i64 o.msg.src, .int .i64 o.msg.dst, .int .i64 o.msg.op, .int .i64 o.msg.commit, .int .i64 o.msg.normal, .slice B k d] 58 (0, 0)) by rw [hW1]; exact blk_new wr _)
      have HBX := hid (show ∀ j v, ([.int .i64 o.kind, .int .i64 o.entry.view, .int .i64 o.entry.client, .int .i64 o.entry.request, .int .i64 o.entry.dflt, .int .i64 o.entry.closed, .int .i64 o.entry.fuel, .int .i64 o.entry.stack, .slice E1 m1 d1, .slice E2 m2 d2, .int .i64 o.msg.kind, .int .i64 o.msg.view, .int .i64 o.msg.src, .int .i64 o.msg.dst, .int .i64 o.msg.op, .int .i64 o.msg.commit, .int .i64 o.msg.normal, .slice B k d] : List Value)[j]? = some v → (wr.alloc (.cells #[.int .i64 o.kind, .int .i64 o.entry.view, .int .i64 o.entry.client, .int .i64 o.entry.request, .int .i64 o.entry.dflt, .int .i64 o.entry.closed, .int .i64 o.entry.fuel, .int .i64 o.entry.stack, .slice E1 m1 d1, .slice E2 m2 d2, .int .i64 o.msg.kind, .int .i64 o.msg.view, .int .i64 o.msg.src, .int .i64 o.msg.dst, .int .i64 o.msg.op, .int .i64 o.msg.commit, .int .i64 o.msg.normal, .slice B k d] 58)).cell? ((⟨wr.heap.size, 0, none⟩ : Addr).add j) = some v from fun j v hj => by rw [← hW1, add_at, Nat.zero_add, cellAt BW1.out]; simpa using hj)
      have HW1 := hid hW1
      clear hW1
      clear hcs hK hx haR hent hmsg
      go_wp2_with (first | ((with_reducible refine at_dst (N := 36) rfl ?_); (refine load_agg_step wr rfl (.tmp 35) 58 rfl _ Try.underlying58 rfl (a.add (q * 18)) rfl ([.int .i64 o.kind, .int .i64 o.entry.view, .int .i64 o.entry.client, .int .i64 o.entry.request, .int .i64 o.entry.dflt, .int .i64 o.entry.closed, .int .i64 o.entry.fuel, .int .i64 o.entry.stack, .slice E1 m1 d1, .slice E2 m2 d2, .int .i64 o.msg.kind, .int .i64 o.msg.view, .int .i64 o.msg.src, .int .i64 o.msg.dst, .int .i64 o.msg.op, .int .i64 o.msg.commit, .int .i64 o.msg.normal, .slice B k d] : List Value) (by kernel_rfl) HCS.out ?_)) | (refine store_agg_step wr rfl (.tmp 10) (.tmp 36) 58 rfl #[.int .i64 0, .int .i64 0, .int .i64 0, .int .i64 0, .int .i64 0, .int .i64 0, .int .i64 0, .int .i64 0, .slice none 0 0, .slice none 0 0, .int .i64 0, .int .i64 0, .int .i64 0, .int .i64 0, .int .i64 0, .int .i64 0, .int .i64 0, .slice none 0 0] #[.int .i64 o.kind, .int .i64 o.entry.view, .int .i64 o.entry.client, .int .i64 o.entry.request, .int .i64 o.entry.dflt, .int .i64 o.entry.closed, .int .i64 o.entry.fuel, .int .i64 o.entry.stack, .slice E1 m1 d1, .slice E2 m2 d2, .int .i64 o.msg.kind, .int .i64 o.msg.view, .int .i64 o.msg.src, .int .i64 o.msg.dst, .int .i64 o.msg.op, .int .i64 o.msg.commit, .int .i64 o.msg.normal, .slice B k d] rfl rfl (by kernel_rfl) rfl (by first | kernel_rfl | simp [Value.oneCell']) ?_) | ((with_reducible refine at_dst (N := 39) rfl ?_); (refine load_agg_step (wr.alloc (.cells #[.int .i64 o.kind, .int .i64 o.entry.view, .int .i64 o.entry.client, .int .i64 o.entry.request, .int .i64 o.entry.dflt, .int .i64 o.entry.closed, .int .i64 o.entry.fuel, .int .i64 o.entry.stack, .slice E1 m1 d1, .slice E2 m2 d2, .int .i64 o.msg.kind, .int .i64 o.msg.view, .int .i64 o.msg.src, .int .i64 o.msg.dst, .int .i64 o.msg.op, .int .i64 o.msg.commit, .int .i64 o.msg.normal, .slice B k d] 58)) rfl (.tmp 10) 58 rfl _ Try.underlying58 rfl ⟨wr.heap.size, 0, none⟩ rfl ([.int .i64 o.kind, .int .i64 o.entry.view, .int .i64 o.entry.client, .int .i64 o.entry.request, .int .i64 o.entry.dflt, .int .i64 o.entry.closed, .int .i64 o.entry.fuel, .int .i64 o.entry.stack, .slice E1 m1 d1, .slice E2 m2 d2, .int .i64 o.msg.kind, .int .i64 o.msg.view, .int .i64 o.msg.src, .int .i64 o.msg.dst, .int .i64 o.msg.op, .int .i64 o.msg.commit, .int .i64 o.msg.normal, .slice B k d] : List Value) (by kernel_rfl) HBX.out ?_)))
      rw [← HW1.out]
      refine (does_any (QQ.out.far CW1.out) (EntryAt.chg HEN.out CW1.out (fun _ _ h => h)) (HMS.out.chg CW1.out (fun _ _ h => h)) (fun j hj _ e => by have h1 : j < w.heap.size := hj; have h2 := MB.out j e; omega) HQT.out).mono ?_
      rintro e w9 ⟨A10, c10, rfl, hq10, hv10, k10⟩
      obtain ⟨r1, hr1⟩ : ∃ q_, q_ = { (doesR r o).1 with out := [] } := ⟨_, rfl⟩
      have HR1 := hid hr1
      have HKE := hid (show Keep r.s r1.s by rw [hr1]; exact does_keep QQ.out.ok o)
      have HQ1 := hid (show 0 ≤ r1.quiet ∧ r1.quiet ≤ r.quiet + 1 by rw [hr1]; exact does_quiet HQT.out.1 o)
      have Q10 := hid (show RQ w9 p b1 b2 b3 (M4 p b1 b2 b3) r1 by rw [hr1]; exact hq10)
      have K10 := hid (show Chg (M4 p b1 b2 b3) wr w9 from (CW1.out.mono (fun _ h _ => h.elim)).trans k10 (fun _ h _ => h))
      have HV10 := hid hv10
      have Z9 := hid (show wr.heap.size ≤ W1.heap.size from CW1.out.size)
      clear hq10 hv10 k10 hr1
      have BC9 := hid (K10.out.blk BCr.out HBC.out)
      have HSY := hid (does_says QQ.out.ok QQ.out.out o)
      have HCF1 := hid (show r1.n = x.1 ∧ r1.id = x.2.1 by have h1 := does_cf r o; rw [HR1.out]; exact ⟨h1.1.trans HCFG.out.1, h1.2.1.trans HCFG.out.2⟩)
      obtain ⟨ol, hol⟩ : ∃ q_, q_ = (doesR r o).1.out := ⟨_, rfl⟩
      obtain ⟨er, her⟩ : ∃ q_, q_ = (doesR r o).2 := ⟨_, rfl⟩
      have HSA := hid (show ∀ m ∈ ol, SayAt r1 m from fun m hm => by
        rw [hol] at hm
        have h1 := HSY.out.1 m hm
        rw [HR1.out]
        exact h1.mono ⟨rfl, rfl, rfl⟩ (Nat.le_refl _) (Int.le_refl _))
      have HER := hid (show er ≠ 0 → ol = [] from fun h => by rw [hol]; exact HSY.out.2 (by rw [← her]; exact h))
      obtain ⟨on, hon⟩ : ∃ q_, q_ = ol.length := ⟨_, rfl⟩
      have HON := hid hon
      rw [← hol, ← hon] at HV10
      rw [← hol, ← hon, ← her]
      clear hol her hon
      have hcase : er = 0 ∨ (er ≠ 0 ∧ on = 0) := by
        by_cases h : er = 0
        · exact .inl h
        · exact .inr ⟨h, by have := HER.out h; have h2 := HON.out; rw [this] at h2; exact h2⟩
      rcases hcase with he | ⟨he, ho0⟩
      rotate_left
      · have he2 : (er != 0) = true := by simp [he]
        subst ho0
        clear he
        go_wp2_with fail
        go_loopw [52] (fun i wx => i = .int .i64 0 ∧ w9 = wx) (fun _ _ => 0)
        case atStart => exact ⟨rfl, rfl⟩
        case round =>
          obtain ⟨rfl, rfl⟩ := hrel
          go_wp2_with fail
          go_roundw
          case measure => simp [intOf]; omega
          case rel => first | exact ⟨q + 1, r1, HLTQ.out, by go_num, Q10.out, by have := HQ1.out; have := HQT2.out; omega, HCF1.out, HC.out.trans K10.out (fun _ h _ => h)⟩ | ((repeat apply Exists.intro); exact ⟨⟨q + 1, r1, HLTQ.out, by go_num, Q10.out, by have := HQ1.out; have := HQT2.out; omega, HCF1.out, HC.out.trans K10.out (fun _ h _ => h)⟩, rfl⟩)
      subst he
      have hob : (on : Int) ≤ 9223372036854775807 := by
        have q1 := HV10.out.at
        have q2 := q1.2.1
        have q3 := q1.2.2.1
        simp [maxLen] at q3
        omega
      go_wp2_with fail
      go_loopw [52] (fun i wx => ∃ j : Nat, j ≤ on ∧ i = .int .i64 j ∧ RQ wx p b1 b2 b3 (M4 p b1 b2 b3) r1 ∧ Chg (fun _ => False) w9 wx) (fun i _ => on - (intOf i).toNat)
      case atStart => exact ⟨0, Nat.zero_le _, rfl, Q10.out, Chg.refl _ _⟩
      case round =>
        obtain ⟨j, hj, rfl, hQj, hCj⟩ := hrel
        have QJ := hid hQj
        have CJ := hid hCj
        clear hQj hCj
        by_cases hjl : j < on
        · have hjl2 : (j : Int) < (on : Int) := by omega
          obtain ⟨m, hm⟩ : ∃ m, ol[j]? = some m := ⟨_, List.getElem?_eq_getElem (by have := HON.out; omega)⟩
          have HSM1 := hid (HSA.out m (List.mem_of_getElem? hm))
          obtain ⟨g, cs5, hA, hgS, hgl, hK, hcs⟩ := (HV10.out.chg CJ.out (fun _ _ h => h) (fun _ _ _ _ h => h)).get (by decide) hm
          have hK' : msgK.K wr (fun k => W1.heap.size ≤ k ∧ k ≠ g ∧ k < wr.heap.size) m cs5.toArray.toList := by rw [List.toList_toArray]; exact hK
          obtain ⟨B5, k5, d5, e2, hml⟩ := msg_open hK'
          have e3 := congrArg Array.toList e2
          rw [List.toList_toArray] at e3
          subst e3
          subst hA
          have HML := hid hml
          have HCS5 := hid (show ∀ i v, ([.int .i64 m.kind, .int .i64 m.view, .int .i64 m.src, .int .i64 m.dst, .int .i64 m.op, .int .i64 m.commit, .int .i64 m.normal, .slice B5 k5 d5] : List Value)[i]? = some v → wr.cell? ((⟨g, j * 8, none⟩ : Addr).add i) = some v from fun i v hi => by rw [add_at]; exact hcs i v hi)
          obtain ⟨W5, hW5⟩ : ∃ W, W = wr.alloc (.cells #[.int .i64 m.kind, .int .i64 m.view, .int .i64 m.src, .int .i64 m.dst, .int .i64 m.op, .int .i64 m.commit, .int .i64 m.normal, .slice B5 k5 d5] 41) := ⟨_, rfl⟩
          have CW5 := hid (show Chg (fun _ => False) wr W5 by rw [hW5]; exact (Chg.refl _ wr).alloc _)
          have BW5 := hid (show W5.heap[wr.heap.size]? = some (.cells #[.int .i64 m.kind, .int .i64 m.view, .int .i64 m.src, .int .i64 m.dst, .int .i64 m.op, .int .i64 m.commit, .int .i64 m.normal, .slice B5 k5 d5] 41 (0, 0)) by rw [hW5]; exact blk_new wr _)
          have HW5 := hid hW5
          clear hm hK hK' hcs e2 hml hgS hgl hW5
          go_wp2_with (first | ((with_reducible refine at_dst (N := 55) rfl ?_); (refine load_agg_step wr rfl (.tmp 54) 41 rfl _ Try.underlying41 rfl ⟨g, j * 8, none⟩ rfl ([.int .i64 m.kind, .int .i64 m.view, .int .i64 m.src, .int .i64 m.dst, .int .i64 m.op, .int .i64 m.commit, .int .i64 m.normal, .slice B5 k5 d5] : List Value) (by kernel_rfl) HCS5.out ?_)))
          rw [← HW5.out]
          obtain ⟨b14, hb14⟩ : ∃ q_, q_ = wr.heap.size := ⟨_, rfl⟩
          rw [← hb14]
          rw [← hb14] at BW5
          clear hb14
          have QW := hid (QJ.out.far CW5.out)
          have BCW := hid (CW5.out.blk (CJ.out.blk BC9.out (fun h => h)) (fun h => h))
          have HMW := hid (HML.out.chg CW5.out (fun _ _ h => h))
          have HD5 := hid ((Chg.refl (fun _ => False) W5).drew)
          have s1 := HSM1.out.right
          have s2 : (m.src != x.2.1) = false := by have h1 := HSM1.out.src; have h2 := HCF1.out.2; simp [h1, h2]
          have s3 : (m.dst == x.2.1) = false := by have h1 := HSM1.out.ne; have h2 := HCF1.out.2; rw [h2] at h1; simp [h1]
          have s4 : ¬ x.1 ≤ m.dst := by have h1 := HSM1.out.dst; have h2 := HCF1.out.1; omega
          have s5 : (m.view != r1.s.view) = false := by have h1 := HSM1.out.view; simp [h1]
          have s6 : ¬ (r1.s.log.length : Int) < m.op := by have h1 := HSM1.out.op; omega
          have s7 : ¬ r1.s.commit < m.commit := by have h1 := HSM1.out.commit; omega
          have s6b : decide ((r1.s.log.length : Int) < m.op) = false := decide_eq_false s6
          have HS1 := hid s1
          have f0 := st_field0
          have f2 := st_field2
          have f4 := st_field4
          obtain ⟨rl, hrl⟩ : ∃ q_, q_ = r1.s.log.length := ⟨_, rfl⟩
          rw [← hrl] at s6 s6b
          have HRL := hid hrl
          clear hrl s1
          have Y_0 : ∀ wx, Chg (fun _ => False) W5 wx → wx.cell? ⟨b14, 0, none⟩ = some (.int .i64 m.kind) := fun wx hx => (cellAt (hx.blk BW5.out (fun h => h)) 0).trans rfl
          have Y_1 : ∀ wx, Chg (fun _ => False) W5 wx → wx.cell? ⟨b14, 1, none⟩ = some (.int .i64 m.view) := fun wx hx => (cellAt (hx.blk BW5.out (fun h => h)) 1).trans rfl
          have Y_2 : ∀ wx, Chg (fun _ => False) W5 wx → wx.cell? ⟨b14, 2, none⟩ = some (.int .i64 m.src) := fun wx hx => (cellAt (hx.blk BW5.out (fun h => h)) 2).trans rfl
          have Y_3 : ∀ wx, Chg (fun _ => False) W5 wx → wx.cell? ⟨b14, 3, none⟩ = some (.int .i64 m.dst) := fun wx hx => (cellAt (hx.blk BW5.out (fun h => h)) 3).trans rfl
          have Y_4 : ∀ wx, Chg (fun _ => False) W5 wx → wx.cell? ⟨b14, 4, none⟩ = some (.int .i64 m.op) := fun wx hx => (cellAt (hx.blk BW5.out (fun h => h)) 4).trans rfl
          have Y_5 : ∀ wx, Chg (fun _ => False) W5 wx → wx.cell? ⟨b14, 5, none⟩ = some (.int .i64 m.commit) := fun wx hx => (cellAt (hx.blk BW5.out (fun h => h)) 5).trans rfl
          have Y_6 : ∀ wx, Chg (fun _ => False) W5 wx → wx.cell? ⟨b14, 6, none⟩ = some (.int .i64 m.normal) := fun wx hx => (cellAt (hx.blk BW5.out (fun h => h)) 6).trans rfl
          have Y_7 : ∀ wx, Chg (fun _ => False) W5 wx → wx.cell? ⟨b14, 7, none⟩ = some (.slice B5 k5 d5) := fun wx hx => (cellAt (hx.blk BW5.out (fun h => h)) 7).trans rfl
          have C_0 : ∀ wx, Chg (fun _ => False) W5 wx → wx.cell? ⟨w.heap.size, 0, none⟩ = some (.int .i64 x.1) := fun wx hx => (cellAt (hx.blk BCW.out (fun h => h)) 0).trans rfl
          have C_1 : ∀ wx, Chg (fun _ => False) W5 wx → wx.cell? ⟨w.heap.size, 1, none⟩ = some (.int .i64 x.2.1) := fun wx hx => (cellAt (hx.blk BCW.out (fun h => h)) 1).trans rfl
          refine wpB_start (fun wx : World => Chg (fun _ => False) W5 wx) (by kernel_rfl) ?_
          have hHeld : (fun wx : World => Chg (fun _ => False) W5 wx) _ := (Chg.refl (fun _ => False) W5).drew
          -- 0: t56 := load 41 t14 : 41
          refine wpB_take (i := 0) (v := ?_) (get_of_drop rfl) (by kernel_rfl) (by kernel_rfl) (by kernel_rfl) (by kernel_rfl) (fun _ _ _ h => h) (Or.inl ⟨by rfl, ?_⟩) hHeld ?_
          rotate_left
          · (intro w hSw; (try dsimp only at hSw); go_simp <;> with_reducible rfl)
          try simp only [Act.put, List.setIfInBounds_toArray, List.set_cons_zero, List.set_cons_succ]
          -- 1: t57 := CALL fn32(t56) : 4
          refine wpB_act (i := 1) (by kernel_rfl) (get_of_drop rfl) (fun K hK => ?_)
          go_simp
          refine (msgright_any (HMW.out.chg hHeld (fun _ _ h => h))).mono ?_
          rintro e' wa ⟨rfl, hwa⟩
          rw [HS1.out]
          have HWA := hid (show Chg (fun _ => False) W5 wa from hHeld.trans hwa (fun _ h _ => h))
          clear hwa
          refine hK.out _ _ ?_ (fun hHeld2 => ?_)
          · first | assumption | exact HWA.out | exact HWB.out | exact HWC.out | exact HWD.out
          clear hHeld hK K
          have hHeld := hHeld2
          clear hHeld2
          try simp only [Act.put, List.setIfInBounds_toArray, List.set_cons_zero, List.set_cons_succ]
          -- 2: t58 := unOp UnOp.not 4 t57 : 4
          refine wpB_take (i := 2) (v := ?_) (get_of_drop rfl) (by kernel_rfl) (by kernel_rfl) (by kernel_rfl) (by kernel_rfl) (fun _ _ _ h => h) (Or.inl ⟨by rfl, ?_⟩) hHeld ?_
          rotate_left
          · (intro w hSw; (try dsimp only at hSw); go_simp <;> with_reducible rfl)
          try simp only [Act.put, List.setIfInBounds_toArray, List.set_cons_zero, List.set_cons_succ]
          -- 3: t59 := move t58 : 4
          refine wpB_take (i := 3) (v := ?_) (get_of_drop rfl) (by kernel_rfl) (by kernel_rfl) (by kernel_rfl) (by kernel_rfl) (fun _ _ _ h => h) (Or.inl ⟨by rfl, ?_⟩) hHeld ?_
          rotate_left
          · (intro w hSw; (try dsimp only at hSw); go_simp <;> with_reducible rfl)
          try simp only [Act.put, List.setIfInBounds_toArray, List.set_cons_zero, List.set_cons_succ]
          -- 4: t60 := fieldAddr 41 t14 2 : 0   [if ⟨3, false⟩]
          refine wpB_take (i := 4) (v := ?_) (get_of_drop rfl) (by kernel_rfl) (by kernel_rfl) (by kernel_rfl) (by kernel_rfl) (fun _ _ _ h => h) (Or.inl ⟨by rfl, ?_⟩) hHeld ?_
          rotate_left
          · (intro w hSw; (try dsimp only at hSw); go_simp <;> with_reducible rfl)
          try simp only [Act.put, List.setIfInBounds_toArray, List.set_cons_zero, List.set_cons_succ]
          -- 5: t61 := load 3 t60 : 3   [if ⟨3, false⟩]
          refine wpB_take (i := 5) (v := ?_) (get_of_drop rfl) (by kernel_rfl) (by kernel_rfl) (by kernel_rfl) (by kernel_rfl) (fun _ _ _ h => h) (Or.inl ⟨by rfl, ?_⟩) hHeld ?_
          rotate_left
          · (intro w hSw; (try dsimp only at hSw); go_simp <;> with_reducible rfl)
          try simp only [Act.put, List.setIfInBounds_toArray, List.set_cons_zero, List.set_cons_succ]
          -- 6: t62 := fieldAddr 23 t3 1 : 0   [if ⟨3, false⟩]
          refine wpB_take (i := 6) (v := ?_) (get_of_drop rfl) (by kernel_rfl) (by kernel_rfl) (by kernel_rfl) (by kernel_rfl) (fun _ _ _ h => h) (Or.inl ⟨by rfl, ?_⟩) hHeld ?_
          rotate_left
          · (intro w hSw; (try dsimp only at hSw); go_simp <;> with_reducible rfl)
          try simp only [Act.put, List.setIfInBounds_toArray, List.set_cons_zero, List.set_cons_succ]
          -- 7: t63 := load 3 t62 : 3   [if ⟨3, false⟩]
          refine wpB_take (i := 7) (v := ?_) (get_of_drop rfl) (by kernel_rfl) (by kernel_rfl) (by kernel_rfl) (by kernel_rfl) (fun _ _ _ h => h) (Or.inl ⟨by rfl, ?_⟩) hHeld ?_
          rotate_left
          · (intro w hSw; (try dsimp only at hSw); go_simp <;> with_reducible rfl)
          try simp only [Act.put, List.setIfInBounds_toArray, List.set_cons_zero, List.set_cons_succ]
          -- 8: t64 := binOp BinOp.neq 3 t61 t63 3 : 4   [if ⟨3, false⟩]
          refine wpB_take (i := 8) (v := ?_) (get_of_drop rfl) (by kernel_rfl) (by kernel_rfl) (by kernel_rfl) (by kernel_rfl) (fun _ _ _ h => h) (Or.inl ⟨by rfl, ?_⟩) hHeld ?_
          rotate_left
          · (intro w hSw; (try dsimp only at hSw); go_simp <;> with_reducible rfl)
          try simp only [Act.put, List.setIfInBounds_toArray, List.set_cons_zero, List.set_cons_succ]
          -- 9: t65 := pick t59 #true t64 : 4
          refine wpB_take (i := 9) (v := ?_) (get_of_drop rfl) (by kernel_rfl) (by kernel_rfl) (by kernel_rfl) (by kernel_rfl) (fun _ _ _ h => h) (Or.inl ⟨by rfl, ?_⟩) hHeld ?_
          rotate_left
          · (intro w hSw; (try dsimp only at hSw); go_simp <;> with_reducible rfl)
          try simp only [Act.put, List.setIfInBounds_toArray, List.set_cons_zero, List.set_cons_succ]
          -- 10: t66 := move t65 : 4
          refine wpB_take (i := 10) (v := ?_) (get_of_drop rfl) (by kernel_rfl) (by kernel_rfl) (by kernel_rfl) (by kernel_rfl) (fun _ _ _ h => h) (Or.inl ⟨by rfl, ?_⟩) hHeld ?_
          rotate_left
          · (intro w hSw; (try dsimp only at hSw); go_simp <;> with_reducible rfl)
          try simp only [Act.put, List.setIfInBounds_toArray, List.set_cons_zero, List.set_cons_succ]
          -- 11: t67 := fieldAddr 41 t14 3 : 0   [if ⟨10, false⟩]
          refine wpB_take (i := 11) (v := ?_) (get_of_drop rfl) (by kernel_rfl) (by kernel_rfl) (by kernel_rfl) (by kernel_rfl) (fun _ _ _ h => h) (Or.inl ⟨by rfl, ?_⟩) hHeld ?_
          rotate_left
          · (intro w hSw; (try dsimp only at hSw); go_simp <;> with_reducible rfl)
          try simp only [Act.put, List.setIfInBounds_toArray, List.set_cons_zero, List.set_cons_succ]
          -- 12: t68 := load 3 t67 : 3   [if ⟨10, false⟩]
          refine wpB_take (i := 12) (v := ?_) (get_of_drop rfl) (by kernel_rfl) (by kernel_rfl) (by kernel_rfl) (by kernel_rfl) (fun _ _ _ h => h) (Or.inl ⟨by rfl, ?_⟩) hHeld ?_
          rotate_left
          · (intro w hSw; (try dsimp only at hSw); go_simp <;> with_reducible rfl)
          try simp only [Act.put, List.setIfInBounds_toArray, List.set_cons_zero, List.set_cons_succ]
          -- 13: t69 := fieldAddr 23 t3 1 : 0   [if ⟨10, false⟩]
          refine wpB_take (i := 13) (v := ?_) (get_of_drop rfl) (by kernel_rfl) (by kernel_rfl) (by kernel_rfl) (by kernel_rfl) (fun _ _ _ h => h) (Or.inl ⟨by rfl, ?_⟩) hHeld ?_
          rotate_left
          · (intro w hSw; (try dsimp only at hSw); go_simp <;> with_reducible rfl)
          try simp only [Act.put, List.setIfInBounds_toArray, List.set_cons_zero, List.set_cons_succ]
          -- 14: t70 := load 3 t69 : 3   [if ⟨10, false⟩]
          refine wpB_take (i := 14) (v := ?_) (get_of_drop rfl) (by kernel_rfl) (by kernel_rfl) (by kernel_rfl) (by kernel_rfl) (fun _ _ _ h => h) (Or.inl ⟨by rfl, ?_⟩) hHeld ?_
          rotate_left
          · (intro w hSw; (try dsimp only at hSw); go_simp <;> with_reducible rfl)
          try simp only [Act.put, List.setIfInBounds_toArray, List.set_cons_zero, List.set_cons_succ]
          -- 15: t71 := binOp BinOp.eql 3 t68 t70 3 : 4   [if ⟨10, false⟩]
          refine wpB_take (i := 15) (v := ?_) (get_of_drop rfl) (by kernel_rfl) (by kernel_rfl) (by kernel_rfl) (by kernel_rfl) (fun _ _ _ h => h) (Or.inl ⟨by rfl, ?_⟩) hHeld ?_
          rotate_left
          · (intro w hSw; (try dsimp only at hSw); go_simp <;> with_reducible rfl)
          try simp only [Act.put, List.setIfInBounds_toArray, List.set_cons_zero, List.set_cons_succ]
          -- 16: t72 := pick t66 #true t71 : 4
          refine wpB_take (i := 16) (v := ?_) (get_of_drop rfl) (by kernel_rfl) (by kernel_rfl) (by kernel_rfl) (by kernel_rfl) (fun _ _ _ h => h) (Or.inl ⟨by rfl, ?_⟩) hHeld ?_
          rotate_left
          · (intro w hSw; (try dsimp only at hSw); go_simp <;> with_reducible rfl)
          try simp only [Act.put, List.setIfInBounds_toArray, List.set_cons_zero, List.set_cons_succ]
          -- 17: t73 := move t72 : 4
          refine wpB_take (i := 17) (v := ?_) (get_of_drop rfl) (by kernel_rfl) (by kernel_rfl) (by kernel_rfl) (by kernel_rfl) (fun _ _ _ h => h) (Or.inl ⟨by rfl, ?_⟩) hHeld ?_
          rotate_left
          · (intro w hSw; (try dsimp only at hSw); go_simp <;> with_reducible rfl)
          try simp only [Act.put, List.setIfInBounds_toArray, List.set_cons_zero, List.set_cons_succ]
          -- 18: t74 := fieldAddr 41 t14 3 : 0   [if ⟨17, false⟩]
          refine wpB_take (i := 18) (v := ?_) (get_of_drop rfl) (by kernel_rfl) (by kernel_rfl) (by kernel_rfl) (by kernel_rfl) (fun _ _ _ h => h) (Or.inl ⟨by rfl, ?_⟩) hHeld ?_
          rotate_left
          · (intro w hSw; (try dsimp only at hSw); go_simp <;> with_reducible rfl)
          try simp only [Act.put, List.setIfInBounds_toArray, List.set_cons_zero, List.set_cons_succ]
          -- 19: t75 := load 3 t74 : 3   [if ⟨17, false⟩]
          refine wpB_take (i := 19) (v := ?_) (get_of_drop rfl) (by kernel_rfl) (by kernel_rfl) (by kernel_rfl) (by kernel_rfl) (fun _ _ _ h => h) (Or.inl ⟨by rfl, ?_⟩) hHeld ?_
          rotate_left
          · (intro w hSw; (try dsimp only at hSw); go_simp <;> with_reducible rfl)
          try simp only [Act.put, List.setIfInBounds_toArray, List.set_cons_zero, List.set_cons_succ]
          -- 20: t76 := fieldAddr 23 t3 0 : 0   [if ⟨17, false⟩]
          refine wpB_take (i := 20) (v := ?_) (get_of_drop rfl) (by kernel_rfl) (by kernel_rfl) (by kernel_rfl) (by kernel_rfl) (fun _ _ _ h => h) (Or.inl ⟨by rfl, ?_⟩) hHeld ?_
          rotate_left
          · (intro w hSw; (try dsimp only at hSw); go_simp <;> with_reducible rfl)
          try simp only [Act.put, List.setIfInBounds_toArray, List.set_cons_zero, List.set_cons_succ]
          -- 21: t77 := load 3 t76 : 3   [if ⟨17, false⟩]
          refine wpB_take (i := 21) (v := ?_) (get_of_drop rfl) (by kernel_rfl) (by kernel_rfl) (by kernel_rfl) (by kernel_rfl) (fun _ _ _ h => h) (Or.inl ⟨by rfl, ?_⟩) hHeld ?_
          rotate_left
          · (intro w hSw; (try dsimp only at hSw); go_simp <;> with_reducible rfl)
          try simp only [Act.put, List.setIfInBounds_toArray, List.set_cons_zero, List.set_cons_succ]
          -- 22: t78 := binOp BinOp.geq 3 t75 t77 3 : 4   [if ⟨17, false⟩]
          refine wpB_take (i := 22) (v := ?_) (get_of_drop rfl) (by kernel_rfl) (by kernel_rfl) (by kernel_rfl) (by kernel_rfl) (fun _ _ _ h => h) (Or.inl ⟨by rfl, ?_⟩) hHeld ?_
          rotate_left
          · (intro w hSw; (try dsimp only at hSw); go_simp <;> with_reducible rfl)
          try simp only [Act.put, List.setIfInBounds_toArray, List.set_cons_zero, List.set_cons_succ]
          -- 23: t79 := pick t73 #true t78 : 4
          refine wpB_take (i := 23) (v := ?_) (get_of_drop rfl) (by kernel_rfl) (by kernel_rfl) (by kernel_rfl) (by kernel_rfl) (fun _ _ _ h => h) (Or.inl ⟨by rfl, ?_⟩) hHeld ?_
          rotate_left
          · (intro w hSw; (try dsimp only at hSw); go_simp <;> with_reducible rfl)
          try simp only [Act.put, List.setIfInBounds_toArray, List.set_cons_zero, List.set_cons_succ]
          -- 24: t80 := move t79 : 4
          refine wpB_take (i := 24) (v := ?_) (get_of_drop rfl) (by kernel_rfl) (by kernel_rfl) (by kernel_rfl) (by kernel_rfl) (fun _ _ _ h => h) (Or.inl ⟨by rfl, ?_⟩) hHeld ?_
          rotate_left
          · (intro w hSw; (try dsimp only at hSw); go_simp <;> with_reducible rfl)
          try simp only [Act.put, List.setIfInBounds_toArray, List.set_cons_zero, List.set_cons_succ]
          -- 25: t81 := fieldAddr 41 t14 1 : 0   [if ⟨24, false⟩]
          refine wpB_take (i := 25) (v := ?_) (get_of_drop rfl) (by kernel_rfl) (by kernel_rfl) (by kernel_rfl) (by kernel_rfl) (fun _ _ _ h => h) (Or.inl ⟨by rfl, ?_⟩) hHeld ?_
          rotate_left
          · (intro w hSw; (try dsimp only at hSw); go_simp <;> with_reducible rfl)
          try simp only [Act.put, List.setIfInBounds_toArray, List.set_cons_zero, List.set_cons_succ]
          -- 26: t82 := load 3 t81 : 3   [if ⟨24, false⟩]
          refine wpB_take (i := 26) (v := ?_) (get_of_drop rfl) (by kernel_rfl) (by kernel_rfl) (by kernel_rfl) (by kernel_rfl) (fun _ _ _ h => h) (Or.inl ⟨by rfl, ?_⟩) hHeld ?_
          rotate_left
          · (intro w hSw; (try dsimp only at hSw); go_simp <;> with_reducible rfl)
          try simp only [Act.put, List.setIfInBounds_toArray, List.set_cons_zero, List.set_cons_succ]
          -- 27: t83 := move t7 : 30   [if ⟨24, false⟩]
          refine wpB_take (i := 27) (v := ?_) (get_of_drop rfl) (by kernel_rfl) (by kernel_rfl) (by kernel_rfl) (by kernel_rfl) (fun _ _ _ h => h) (Or.inl ⟨by rfl, ?_⟩) hHeld ?_
          rotate_left
          · (intro w hSw; (try dsimp only at hSw); go_simp <;> with_reducible rfl)
          try simp only [Act.put, List.setIfInBounds_toArray, List.set_cons_zero, List.set_cons_succ]
          -- 28: t84 := CALL fn15(t83) : 26   [if ⟨24, false⟩]
          refine wpB_act (i := 28) (by kernel_rfl) (get_of_drop rfl) (fun K hK => ?_)
          go_simp
          refine (rq_state (QW.out.far hHeld)).mono ?_
          rintro e' wb ⟨Ab, cb, rfl, _, hwb⟩
          rw [← HRL.out]
          have HWB := hid (show Chg (fun _ => False) W5 wb from hHeld.trans hwb (fun _ h _ => h))
          clear hwb
          refine hK.out _ _ ?_ (fun hHeld2 => ?_)
          · first | assumption | exact HWA.out | exact HWB.out | exact HWC.out | exact HWD.out
          clear hHeld hK K
          have hHeld := hHeld2
          clear hHeld2
          try simp only [Act.put, List.setIfInBounds_toArray, List.set_cons_zero, List.set_cons_succ]
          -- 29: t85 := field 26 t84 0 : 3   [if ⟨24, false⟩]
          refine wpB_take (i := 29) (v := ?_) (get_of_drop rfl) (by kernel_rfl) (by kernel_rfl) (by kernel_rfl) (by kernel_rfl) (fun _ _ _ h => h) (Or.inl ⟨by rfl, ?_⟩) hHeld ?_
          rotate_left
          · (intro w hSw; (try dsimp only at hSw); go_simp <;> with_reducible rfl)
          try simp only [Act.put, List.setIfInBounds_toArray, List.set_cons_zero, List.set_cons_succ]
          -- 30: t86 := binOp BinOp.neq 3 t82 t85 3 : 4   [if ⟨24, false⟩]
          refine wpB_take (i := 30) (v := ?_) (get_of_drop rfl) (by kernel_rfl) (by kernel_rfl) (by kernel_rfl) (by kernel_rfl) (fun _ _ _ h => h) (Or.inl ⟨by rfl, ?_⟩) hHeld ?_
          rotate_left
          · (intro w hSw; (try dsimp only at hSw); go_simp <;> with_reducible rfl)
          try simp only [Act.put, List.setIfInBounds_toArray, List.set_cons_zero, List.set_cons_succ]
          -- 31: t87 := pick t80 #true t86 : 4
          refine wpB_take (i := 31) (v := ?_) (get_of_drop rfl) (by kernel_rfl) (by kernel_rfl) (by kernel_rfl) (by kernel_rfl) (fun _ _ _ h => h) (Or.inl ⟨by rfl, ?_⟩) hHeld ?_
          rotate_left
          · (intro w hSw; (try dsimp only at hSw); go_simp <;> with_reducible rfl)
          try simp only [Act.put, List.setIfInBounds_toArray, List.set_cons_zero, List.set_cons_succ]
          -- 32: t88 := move t87 : 4
          refine wpB_take (i := 32) (v := ?_) (get_of_drop rfl) (by kernel_rfl) (by kernel_rfl) (by kernel_rfl) (by kernel_rfl) (fun _ _ _ h => h) (Or.inl ⟨by rfl, ?_⟩) hHeld ?_
          rotate_left
          · (intro w hSw; (try dsimp only at hSw); go_simp <;> with_reducible rfl)
          try simp only [Act.put, List.setIfInBounds_toArray, List.set_cons_zero, List.set_cons_succ]
          -- 33: t89 := fieldAddr 41 t14 4 : 0   [if ⟨32, false⟩]
          refine wpB_take (i := 33) (v := ?_) (get_of_drop rfl) (by kernel_rfl) (by kernel_rfl) (by kernel_rfl) (by kernel_rfl) (fun _ _ _ h => h) (Or.inl ⟨by rfl, ?_⟩) hHeld ?_
          rotate_left
          · (intro w hSw; (try dsimp only at hSw); go_simp <;> with_reducible rfl)
          try simp only [Act.put, List.setIfInBounds_toArray, List.set_cons_zero, List.set_cons_succ]
          -- 34: t90 := load 3 t89 : 3   [if ⟨32, false⟩]
          refine wpB_take (i := 34) (v := ?_) (get_of_drop rfl) (by kernel_rfl) (by kernel_rfl) (by kernel_rfl) (by kernel_rfl) (fun _ _ _ h => h) (Or.inl ⟨by rfl, ?_⟩) hHeld ?_
          rotate_left
          · (intro w hSw; (try dsimp only at hSw); go_simp <;> with_reducible rfl)
          try simp only [Act.put, List.setIfInBounds_toArray, List.set_cons_zero, List.set_cons_succ]
          -- 35: t91 := move t7 : 30   [if ⟨32, false⟩]
          refine wpB_take (i := 35) (v := ?_) (get_of_drop rfl) (by kernel_rfl) (by kernel_rfl) (by kernel_rfl) (by kernel_rfl) (fun _ _ _ h => h) (Or.inl ⟨by rfl, ?_⟩) hHeld ?_
          rotate_left
          · (intro w hSw; (try dsimp only at hSw); go_simp <;> with_reducible rfl)
          try simp only [Act.put, List.setIfInBounds_toArray, List.set_cons_zero, List.set_cons_succ]
          -- 36: t92 := CALL fn15(t91) : 26   [if ⟨32, false⟩]
          refine wpB_act (i := 36) (by kernel_rfl) (get_of_drop rfl) (fun K hK => ?_)
          go_simp
          refine (rq_state (QW.out.far hHeld)).mono ?_
          rintro e' wc ⟨Ac, cc, rfl, _, hwc⟩
          rw [← HRL.out]
          have HWC := hid (show Chg (fun _ => False) W5 wc from hHeld.trans hwc (fun _ h _ => h))
          clear hwc
          refine hK.out _ _ ?_ (fun hHeld2 => ?_)
          · first | assumption | exact HWA.out | exact HWB.out | exact HWC.out | exact HWD.out
          clear hHeld hK K
          have hHeld := hHeld2
          clear hHeld2
          try simp only [Act.put, List.setIfInBounds_toArray, List.set_cons_zero, List.set_cons_succ]
          -- 37: t93 := field 26 t92 4 : 24   [if ⟨32, false⟩]
          refine wpB_take (i := 37) (v := ?_) (get_of_drop rfl) (by kernel_rfl) (by kernel_rfl) (by kernel_rfl) (by kernel_rfl) (fun _ _ _ h => h) (Or.inl ⟨by rfl, ?_⟩) hHeld ?_
          rotate_left
          · (intro w hSw; (try dsimp only at hSw); go_simp <;> with_reducible rfl)
          try simp only [Act.put, List.setIfInBounds_toArray, List.set_cons_zero, List.set_cons_succ]
          -- 38: t94 := len(t93) types [24] : 3   [if ⟨32, false⟩]
          refine wpB_take (i := 38) (v := ?_) (get_of_drop rfl) (by kernel_rfl) (by kernel_rfl) (by kernel_rfl) (by kernel_rfl) (fun _ _ _ h => h) (Or.inl ⟨by rfl, ?_⟩) hHeld ?_
          rotate_left
          · (intro w hSw; (try dsimp only at hSw); go_simp <;> with_reducible rfl)
          try simp only [Act.put, List.setIfInBounds_toArray, List.set_cons_zero, List.set_cons_succ]
          -- 39: t95 := binOp BinOp.gtr 3 t90 t94 3 : 4   [if ⟨32, false⟩]
          refine wpB_take (i := 39) (v := ?_) (get_of_drop rfl) (by kernel_rfl) (by kernel_rfl) (by kernel_rfl) (by kernel_rfl) (fun _ _ _ h => h) (Or.inl ⟨by rfl, ?_⟩) hHeld ?_
          rotate_left
          · (intro w hSw; (try dsimp only at hSw); go_simp <;> with_reducible rfl)
          try simp only [Act.put, List.setIfInBounds_toArray, List.set_cons_zero, List.set_cons_succ]
          -- 40: t96 := pick t88 #true t95 : 4
          refine wpB_take (i := 40) (v := ?_) (get_of_drop rfl) (by kernel_rfl) (by kernel_rfl) (by kernel_rfl) (by kernel_rfl) (fun _ _ _ h => h) (Or.inl ⟨by rfl, ?_⟩) hHeld ?_
          rotate_left
          · (intro w hSw; (try dsimp only at hSw); go_simp <;> with_reducible rfl)
          try simp only [Act.put, List.setIfInBounds_toArray, List.set_cons_zero, List.set_cons_succ]
          -- 41: t97 := move t96 : 4
          refine wpB_take (i := 41) (v := ?_) (get_of_drop rfl) (by kernel_rfl) (by kernel_rfl) (by kernel_rfl) (by kernel_rfl) (fun _ _ _ h => h) (Or.inl ⟨by rfl, ?_⟩) hHeld ?_
          rotate_left
          · (intro w hSw; (try dsimp only at hSw); go_simp <;> with_reducible rfl)
          try simp only [Act.put, List.setIfInBounds_toArray, List.set_cons_zero, List.set_cons_succ]
          -- 42: t98 := fieldAddr 41 t14 5 : 0   [if ⟨41, false⟩]
          refine wpB_take (i := 42) (v := ?_) (get_of_drop rfl) (by kernel_rfl) (by kernel_rfl) (by kernel_rfl) (by kernel_rfl) (fun _ _ _ h => h) (Or.inl ⟨by rfl, ?_⟩) hHeld ?_
          rotate_left
          · (intro w hSw; (try dsimp only at hSw); go_simp <;> with_reducible rfl)
          try simp only [Act.put, List.setIfInBounds_toArray, List.set_cons_zero, List.set_cons_succ]
          -- 43: t99 := load 3 t98 : 3   [if ⟨41, false⟩]
          refine wpB_take (i := 43) (v := ?_) (get_of_drop rfl) (by kernel_rfl) (by kernel_rfl) (by kernel_rfl) (by kernel_rfl) (fun _ _ _ h => h) (Or.inl ⟨by rfl, ?_⟩) hHeld ?_
          rotate_left
          · (intro w hSw; (try dsimp only at hSw); go_simp <;> with_reducible rfl)
          try simp only [Act.put, List.setIfInBounds_toArray, List.set_cons_zero, List.set_cons_succ]
          -- 44: t100 := move t7 : 30   [if ⟨41, false⟩]
          refine wpB_take (i := 44) (v := ?_) (get_of_drop rfl) (by kernel_rfl) (by kernel_rfl) (by kernel_rfl) (by kernel_rfl) (fun _ _ _ h => h) (Or.inl ⟨by rfl, ?_⟩) hHeld ?_
          rotate_left
          · (intro w hSw; (try dsimp only at hSw); go_simp <;> with_reducible rfl)
          try simp only [Act.put, List.setIfInBounds_toArray, List.set_cons_zero, List.set_cons_succ]
          -- 45: t101 := CALL fn15(t100) : 26   [if ⟨41, false⟩]
          refine wpB_act (i := 45) (by kernel_rfl) (get_of_drop rfl) (fun K hK => ?_)
          go_simp
          refine (rq_state (QW.out.far hHeld)).mono ?_
          rintro e' wd ⟨Ad, cd, rfl, _, hwd⟩
          rw [← HRL.out]
          have HWD := hid (show Chg (fun _ => False) W5 wd from hHeld.trans hwd (fun _ h _ => h))
          clear hwd
          refine hK.out _ _ ?_ (fun hHeld2 => ?_)
          · first | assumption | exact HWA.out | exact HWB.out | exact HWC.out | exact HWD.out
          clear hHeld hK K
          have hHeld := hHeld2
          clear hHeld2
          try simp only [Act.put, List.setIfInBounds_toArray, List.set_cons_zero, List.set_cons_succ]
          -- 46: t102 := field 26 t101 2 : 3   [if ⟨41, false⟩]
          refine wpB_take (i := 46) (v := ?_) (get_of_drop rfl) (by kernel_rfl) (by kernel_rfl) (by kernel_rfl) (by kernel_rfl) (fun _ _ _ h => h) (Or.inl ⟨by rfl, ?_⟩) hHeld ?_
          rotate_left
          · (intro w hSw; (try dsimp only at hSw); go_simp <;> with_reducible rfl)
          try simp only [Act.put, List.setIfInBounds_toArray, List.set_cons_zero, List.set_cons_succ]
          -- 47: t103 := binOp BinOp.gtr 3 t99 t102 3 : 4   [if ⟨41, false⟩]
          refine wpB_take (i := 47) (v := ?_) (get_of_drop rfl) (by kernel_rfl) (by kernel_rfl) (by kernel_rfl) (by kernel_rfl) (fun _ _ _ h => h) (Or.inl ⟨by rfl, ?_⟩) hHeld ?_
          rotate_left
          · (intro w hSw; (try dsimp only at hSw); go_simp <;> with_reducible rfl)
          try simp only [Act.put, List.setIfInBounds_toArray, List.set_cons_zero, List.set_cons_succ]
          -- 48: t104 := pick t97 #true t103 : 4
          refine wpB_take (i := 48) (v := ?_) (get_of_drop rfl) (by kernel_rfl) (by kernel_rfl) (by kernel_rfl) (by kernel_rfl) (fun _ _ _ h => h) (Or.inl ⟨by rfl, ?_⟩) hHeld ?_
          rotate_left
          · (intro w hSw; (try dsimp only at hSw); go_simp <;> with_reducible rfl)
          try simp only [Act.put, List.setIfInBounds_toArray, List.set_cons_zero, List.set_cons_succ]
          refine wpB_done (by kernel_rfl) ?_ _
          have CE := hid (show Chg (fun _ => False) w9 wd from (CJ.out.trans CW5.out (fun _ h _ => h)).trans HWD.out (fun _ h _ => h))
          have QE := hid (QW.out.far HWD.out)
          clear hHeld s2 s3 s4 s5 s6 s6b s7 f0 f2 f4 C_0 C_1 Y_0 Y_1 Y_2 Y_3 Y_4 Y_5 Y_6 Y_7
          go_wp2_with fail
          go_roundw
          case measure => simp [intOf]; omega
          case rel => first | exact ⟨j + 1, hjl, by go_num, QE.out, CE.out⟩ | ((repeat apply Exists.intro); exact ⟨⟨j + 1, hjl, by go_num, QE.out, CE.out⟩, rfl⟩)
        · have hjn : ¬ (j : Int) < (on : Int) := by omega
          have K11 := hid (K10.out.trans CJ.out (fun _ h _ => h.elim))
          go_wp2_with fail
          go_roundw
          case measure => simp [intOf]; omega
          case rel => first | exact ⟨q + 1, r1, HLTQ.out, by go_num, QJ.out, by have := HQ1.out; have := HQT2.out; omega, HCF1.out, HC.out.trans K11.out (fun _ h _ => h)⟩ | ((repeat apply Exists.intro); exact ⟨⟨q + 1, r1, HLTQ.out, by go_num, QJ.out, by have := HQ1.out; have := HQT2.out; omega, HCF1.out, HC.out.trans K11.out (fun _ h _ => h)⟩, rfl⟩)
    · have hqn : ¬ (q : Int) < (ln : Int) := by omega
      go_wp2_with fail
      go_ret
      exact ⟨rfl, HFIN.out _ CW.out⟩
end Go.Proofs.Ytaldoajdhbndhaa.Pa

/- The row of the law ReplicaSays, out of its walk: for every input that can be read the law returns true, and each argument reads behind the call as it did. -/
namespace Go.Proofs.Ytaldoajdhbndhaa.replicaSays
open Go.ChangeShapes Go.WideShapes Go.ChangeAt Go.RowKit
open Go.ChangeMaps (open_string shut_string)
set_option linter.unusedVariables false
theorem own : ownKnob Try.prog.godebug = none := by kernel_rfl
theorem laidOut : laidOutB Try.prog = true := by kernel_rfl
set_option maxRecDepth 100000 in
theorem lifted (os : Os) (started : os.Started) (H : Type) (enc : TypeId × Value → H) :
    ReturnsInHanded {} Try.checked os 5 .any (Rows.replicaSaysSpec.pre6 enc Try.prog Try.f5 Rows.replicaSaysRow.domain false) (Rows.replicaSaysSpec.post enc Try.prog Try.f5 false true false false) := by
  refine returnsInHanded_of_change_sized (C := Try.checked) own started (by kernel_rfl) Try.func5
    (ChangeSpec.witness6 (enc := enc) (C := Try.checked) false ⟨#[], #[.agg #[.int .i64 0, .int .i64 0, .int .i64 0], .agg #[.int .i64 0, .int .i64 0, .int .i64 0, .int .i64 0, .slice none 0 0], .slice none 0 0], []⟩ 8 (by kernel_rfl) (by kernel_rfl) (by kernel_rfl) (by kernel_rfl)) ?_
  intro W base args ds gs before hval0 hW hcnd hsz0 _
  have hval : ∀ (j : Nat) t v, Try.f5.params[j]? = some t → args[j]? = some v → Value.okWide Try.prog W .any base t v := hval0
  have hW' := hW
  obtain ⟨p, q, hA0, hV, rfl, hfz, hnd⟩ := hW
  have hA : DataW.TrodAll enc Try.prog W 0 (fun _ => true) true Try.f5.params.toList args.toList ds p := hA0
  rw [Try.params5] at hA hval
  obtain ⟨v0, vs0, d0, ds0, p0, q0, hargs, rfl, rfl, h0, r0⟩ := trodAll_cons hA
  obtain ⟨v1, vs1, d1, ds1, p1, q1, rfl, rfl, rfl, h1, r1⟩ := trodAll_cons r0
  obtain ⟨v2, vs2, d2, ds2, p2, q2, rfl, rfl, rfl, h2, r2⟩ := trodAll_cons r1
  obtain ⟨rfl, rfl, rfl⟩ := trodAll_nil r2
  obtain rfl : args = #[v0, v1, v2] := by cases args; simp_all
  obtain ⟨rfl, rfl⟩ := trodVars_none hV
  have k0 := h0
  have lt0 : ∀ x ∈ p0, x.block < W.heap.size := by obtain ⟨m, hm⟩ := k0; exact DataW.trod_lt m _ _ _ hm
  obtain ⟨cs0, rfl, _⟩ := okWide_struct Try.underlying23 (hval 0 23 v0 rfl rfl)
  obtain ⟨z0, w0⟩ : ∃ x, Pa.cfgK.K W (fun k => k < W.heap.size) x cs0.toList := by
    obtain ⟨fuel, hf⟩ := h0
    exact Pa.opens_cfg.opens enc W _ _ fuel _ _ hf
  have k1 := h1
  have lt1 : ∀ x ∈ p1, x.block < W.heap.size := by obtain ⟨m, hm⟩ := k1; exact DataW.trod_lt m _ _ _ hm
  obtain ⟨cs1, rfl, _⟩ := okWide_struct Try.underlying26 (hval 1 26 v1 rfl rfl)
  obtain ⟨z1, w1⟩ : ∃ x, Pa.stK.K W (fun k => k < W.heap.size) x cs1.toList := by
    obtain ⟨fuel, hf⟩ := h1
    exact Pa.opens_st.opens enc W _ _ fuel _ _ hf
  have k2 := h2
  have lt2 : ∀ x ∈ p2, x.block < W.heap.size := by obtain ⟨m, hm⟩ := k2; exact DataW.trod_lt m _ _ _ hm
  obtain ⟨a2, len2, cap2, rfl⟩ := okWide_slice Try.underlying46 (hval 2 46 v2 rfl rfl)
  obtain ⟨z2, w2⟩ : ∃ xs, C.Ty.At _ W (fun k => k < W.heap.size) a2 len2 cap2 xs := by
    obtain ⟨fuel, hf⟩ := h2
    obtain ⟨xs, A, n, c, hcs, hx⟩ := Pa.opens_ops.opens enc W _ _ fuel _ _ hf
    simp [Value.cells] at hcs
    obtain ⟨rfl, rfl, rfl⟩ := hcs
    exact ⟨xs, hx⟩
  clear hA0 hval0 hsz0
  refine (Pa.ReplicaSays_walk W cs0 z0 w0 cs1 z1 w1 a2 len2 cap2 z2 w2).mono fun e W' ⟨he, bel⟩ => ?_
  subst he
  exact ⟨_, rfl, _, _, _, [], _, [], hW', trodAll_mk1 (shut_bool (Try.underlying4) _), (trodAll_cons_mk (Below.trod laidOut (by kernel_rfl) (of_decide_eq_true (by kernel_rfl)) k0 bel lt0) (trodAll_cons_mk (Below.trod laidOut (by kernel_rfl) (of_decide_eq_true (by kernel_rfl)) k1 bel lt1) (trodAll_cons_mk (Below.trod laidOut (by kernel_rfl) (of_decide_eq_true (by kernel_rfl)) k2 bel lt2) trodAll_mk0))), rfl, bel.frame _, fun h => by cases h⟩
theorem over : Rows.replicaSaysRow.holds Try.pinned (OpenSpec.ofChange Rows.replicaSaysSpec) :=
  OpenClaim.holds_of_wide 5 Try.f5 rfl rfl rfl rfl rfl rfl rfl ⟨rfl, rfl, rfl, rfl, rfl⟩ rfl rfl rfl rfl rfl (by kernel_rfl) Try.func5 (by kernel_rfl)
    (of_decide_eq_true (by kernel_rfl)) (by unfold Func.isWrapper; first | (rw [if_pos (by decide +kernel)]; kernel_rfl) | (rw [if_neg (by decide +kernel)]; exact ⟨rfl, rfl⟩))
    (fun os started H enc _ => lifted os started H enc)
end Go.Proofs.Ytaldoajdhbndhaa.replicaSays
namespace Go.Proofs.Ytaldoajdhbndhaa
theorem replicaSays_holds : Rows.ReplicaSaysSaid := replicaSays.over
#print axioms replicaSays_holds
end Go.Proofs.Ytaldoajdhbndhaa
