/- The law with its walk: WReplicaKeeps, LawReplicaKeeps. -/
import Derived.Test.YtaldoajdhbndhaaRows
import Derived.Test.YtaldoajdhbndhaaMH
import Derived.Below
import Derived.Deep.Draws
import Derived.Deep.AppendLies
import Derived.Maps.AppendAt
import Derived.OwnWalk
import Derived.Laws.BytesArg
import Derived.Laws.MakeOwn
import Derived.Laws.OwnMore
import Derived.Deep.OwnRows
import Derived.Tactics
import Derived.Lib.ConvBytes
import Derived.Laws.Slices
import Derived.WalkKit
import Derived.KernelRfl
import Derived.RowKit3
import Derived.Deep.LoopGhost
import Derived.Deep.QuietTactic
import Derived.BigQuiet
import Derived.WideLaws
import Derived.Deep.DeepCutAuto
import Derived.Deep.CutBlock
import Derived.Deep.RegionHeld3
import Derived.Deep.RegionLaw
import Derived.StillTailTactics
import Derived.Laws.Rows
import Derived.Lib.AppendStr
import Derived.ArgAppend
import Derived.Laws.IdiomCopy
import Derived.OrdersHeld
import Derived.Laws.BitsLemmas
import Derived.Laws.BitsAllLaws
import Derived.WalkSpells
import Derived.Lib.LazyBuf
import Derived.RowKit
import Derived.ProofKit
import Derived.Deep.Slices
import Derived.IntWalk
import Derived.Shelf.Abstract
import Derived.Laws.StructEq
import Derived.Lib.SlBytesConst
import Derived.WalkMore
import Derived.Deep.WholeRow
import Derived.Maps.Keyed
import Derived.Maps.RangeRun
import Derived.ChangeMaps5
import Derived.Carry
import Derived.OpenShut
import Derived.ShutString
import Derived.ChangeOld
import Derived.SizedLaws

/- The walk of the law ReplicaKeeps. -/

namespace Go.Proofs.Ytaldoajdhbndhaa.Pa

set_option linter.unusedVariables false

set_option linter.unusedSimpArgs false

open Go.RowKit Go.Proofs.Ytaldoajdhbndhaa.C

attribute [local go_sem] max2_int min2_int max_two min_two

set_option maxHeartbeats 4000000 in
set_option maxRecDepth 100000 in
theorem ReplicaKeeps_walk (w : World) (ca : Array Value) (x : Int × Int × Int) (hx : cfgK.K w (fun k => k < w.heap.size) x ca.toList) (cs : Array Value) (s : St) (hs : stK.K w (fun k => k < w.heap.size) s cs.toList) (L : Option Addr) (ln lc : Nat) (l : List OpR) (hl : Ty.At opK w (fun k => k < w.heap.size) L ln lc l) :
    Calls Try.prog 10 #[.agg ca, .agg cs, .slice L ln lc] w fun e w' => e = .returned (.bool true) ∧ Below w.heap.size w w' := by
  obtain ⟨rfl, hnw⟩ := cfg_open hx
  obtain ⟨A, n, c, rfl, hlg, hsw⟩ := st_open hs
  have HNW := hid hnw
  obtain ⟨bs, hbs⟩ : ∃ q_, q_ = w.heap.size + 1 := ⟨_, rfl⟩
  obtain ⟨w1, hw1⟩ : ∃ q_, q_ = ((w.alloc (.cells #[.int .i64 x.1, .int .i64 x.2.1, .int .i64 x.2.2] 23)).alloc (.cells #[.int .i64 s.view, .int .i64 s.normal, .int .i64 s.commit, .int .i64 s.active, .slice A n c] 26)) := ⟨_, rfl⟩
  have C1 := hid (show Chg (fun _ => False) w w1 by rw [hw1]; exact ((Chg.refl _ w).alloc _).alloc _)
  have BC := hid (show w1.heap[w.heap.size]? = some (.cells #[.int .i64 x.1, .int .i64 x.2.1, .int .i64 x.2.2] 23 (0, 0)) by
    rw [hw1]
    refine blk_alloc ?_ _
    have := blk_new w (.cells #[.int .i64 x.1, .int .i64 x.2.1, .int .i64 x.2.2] 23)
    simpa using this)
  have BS := hid (show w1.heap[bs]? = some (.cells #[.int .i64 s.view, .int .i64 s.normal, .int .i64 s.commit, .int .i64 s.active, .slice A n c] 26 (0, 0)) by
    rw [hw1, hbs]
    have := blk_new (w.alloc (.cells #[.int .i64 x.1, .int .i64 x.2.1, .int .i64 x.2.2] 23)) (.cells #[.int .i64 s.view, .int .i64 s.normal, .int .i64 s.commit, .int .i64 s.active, .slice A n c] 26)
    simpa using this)
  have ne01 : w.heap.size ≠ bs := by omega
  have ne10 : bs ≠ w.heap.size := by omega
  have Hbs := hid hbs
  have ltbs : w.heap.size < bs := by omega
  have SZ := hid (show w1.heap.size = w.heap.size + 2 by rw [hw1]; simp)
  have HL := hid (hlg.chg C1.out (fun _ _ h => h))
  have HLL := hid hl
  have LN := hid hl.1
  have hlnb : (ln : Int) ≤ 9223372036854775807 := by have q1 := hl.2.1; have q2 := hl.2.2.1; simp [maxLen] at q2; omega
  clear hx hs hlg hl hsw hnw
  go_enter Try.func10, Try.ntmps10
  go_wp2_with fail
  rw [← hbs, ← hw1]
  clear hw1 hbs
  refine (anchor15_any w1).mono ?_
  rintro e w2 ⟨rfl, k2⟩
  have CC := hid (C1.out.trans k2 (fun _ h _ => h))
  replace BC := hid (k2.blk BC.out (fun h => h))
  replace BS := hid (k2.blk BS.out (fun h => h))
  replace HL := hid (HL.out.chg k2 (fun _ _ h => h))
  clear k2
  have S_0 : w2.cell? ⟨bs, 0, none⟩ = some (.int .i64 s.view) := (cellAt BS.out 0).trans rfl
  have S_1 : w2.cell? ⟨bs, 1, none⟩ = some (.int .i64 s.normal) := (cellAt BS.out 1).trans rfl
  have S_2 : w2.cell? ⟨bs, 2, none⟩ = some (.int .i64 s.commit) := (cellAt BS.out 2).trans rfl
  have S_3 : w2.cell? ⟨bs, 3, none⟩ = some (.int .i64 s.active) := (cellAt BS.out 3).trans rfl
  have S_4 : w2.cell? ⟨bs, 4, none⟩ = some (.slice A n c) := (cellAt BS.out 4).trans rfl
  go_wp2_with fail
  clear S_0 S_1 S_2 S_3 S_4
  refine (small15_any HL.out (HLL.out.chg CC.out (fun _ _ h => h)) 40).mono ?_
  rintro e w3 ⟨rfl, k3⟩
  replace CC := hid (CC.out.trans k3 (fun _ h _ => h))
  replace BC := hid (k3.blk BC.out (fun h => h))
  replace BS := hid (k3.blk BS.out (fun h => h))
  replace HL := hid (HL.out.chg k3 (fun _ _ h => h))
  clear k3
  cases hsm : small15 s l 40
  · go_wp2_with fail
    go_ret
    exact ⟨rfl, CC.out.below (Nat.le_refl _) (fun _ h => h.elim)⟩
  have HSM := hid (small15_iff hsm)
  have HN7 := hid (show n ≤ 1000000 by have h1 := HL.out.1; have h2 := smallR_len HSM.out.2; omega)
  have HLN := hid (show ln ≤ 1000 by have h1 := HSM.out.1; have h2 := LN.out; omega)
  have HC0 := hid (lt_of_blk BC.out)
  have HC1 := hid (lt_of_blk BS.out)
  clear hsm
  have C_0 : w3.cell? ⟨w.heap.size, 0, none⟩ = some (.int .i64 x.1) := (cellAt BC.out 0).trans rfl
  have C_1 : w3.cell? ⟨w.heap.size, 1, none⟩ = some (.int .i64 x.2.1) := (cellAt BC.out 1).trans rfl
  have C_2 : w3.cell? ⟨w.heap.size, 2, none⟩ = some (.int .i64 x.2.2) := (cellAt BC.out 2).trans rfl
  have S_0 : w3.cell? ⟨bs, 0, none⟩ = some (.int .i64 s.view) := (cellAt BS.out 0).trans rfl
  have S_1 : w3.cell? ⟨bs, 1, none⟩ = some (.int .i64 s.normal) := (cellAt BS.out 1).trans rfl
  have S_2 : w3.cell? ⟨bs, 2, none⟩ = some (.int .i64 s.commit) := (cellAt BS.out 2).trans rfl
  have S_3 : w3.cell? ⟨bs, 3, none⟩ = some (.int .i64 s.active) := (cellAt BS.out 3).trans rfl
  have S_4 : w3.cell? ⟨bs, 4, none⟩ = some (.slice A n c) := (cellAt BS.out 4).trans rfl
  go_wp2_with fail
  clear C_0 C_1 C_2 S_0 S_1 S_2 S_3 S_4
  refine (rnew_any (R := fun k => k < w.heap.size) HL.out HN7.out HNW.out).mono ?_
  rintro e wn (⟨_, rfl, hc⟩ | ⟨hcf, hst, p, b1, b2, b3, A9, n9, c9, rfl, hM, hR, hc⟩)
  · have CN := hid (CC.out.trans hc (fun _ h _ => h))
    clear hc
    go_wp2_with fail
    go_ret
    exact ⟨rfl, CN.out.below (Nat.le_refl _) (fun _ h => h.elim)⟩
  have HM4 := hid (show ∀ k, M4 p b1 b2 b3 k → w3.heap.size ≤ k from fun k hk => (hM k hk).1)
  have HSZ := hid (show w.heap.size ≤ w3.heap.size from CC.out.size)
  have Q := hid (show RQ wn p b1 b2 b3 (M4 p b1 b2 b3) (newR x.1 x.2.1 x.2.2 s) from (RQ.mk (RpOk.new hcf hst) rfl ⟨A9, n9, c9, hR⟩).less (fun k hk => hk) (fun k hk => .inl hk))
  have KK := hid (show Chg (M4 p b1 b2 b3) w wn from (CC.out.trans hc (fun _ h _ => h)).mono (fun _ h _ => h.elim))
  have HFIN := hid (show ∀ w', Chg (M4 p b1 b2 b3) w w' → Below w.heap.size w w' from fun w' h => h.below (Nat.le_refl _) (fun k hk => Nat.le_trans HSZ.out (HM4.out k hk)))
  have HCF := hid hcf
  have HST := hid hst
  have WNS := hid (show ∀ k, M4 p b1 b2 b3 k → k < wn.heap.size from fun k hk => (hM k hk).2)
  have HP4 := hid (show w3.heap.size ≤ wn.heap.size from hc.size)
  have HBSL := hid (show bs < wn.heap.size from Nat.lt_of_lt_of_le (lt_of_blk BS.out) hc.size)
  have MB := hid (show ∀ k, M4 p b1 b2 b3 k → w.heap.size ≤ k from fun k hk => Nat.le_trans HSZ.out (HM4.out k hk))
  replace BC := hid (hc.blk BC.out (fun h => h))
  replace BS := hid (hc.blk BS.out (fun h => h))
  have HBC := hid (show ¬ M4 p b1 b2 b3 w.heap.size from fun e => by have h1 := HM4.out _ e; have h2 := lt_of_blk BC.out; have h3 := HC0.out; omega)
  have HBS := hid (show ¬ M4 p b1 b2 b3 bs from fun e => by have h1 := HM4.out _ e; have h3 := HC1.out; omega)
  clear hcf hst hM hR hc
  go_wp2_with fail
  refine (rq_state Q.out).mono ?_
  rintro e w4 ⟨A4, c4, rfl, hat, k4⟩
  replace KK := hid (KK.out.trans k4 (fun _ h _ => h.elim))
  replace Q := hid (Q.out.far k4)
  replace BC := hid (k4.blk BC.out (fun h => h))
  replace BS := hid (k4.blk BS.out (fun h => h))
  obtain ⟨r0, hr0⟩ : ∃ q_, q_ = newR x.1 x.2.1 x.2.2 s := ⟨_, rfl⟩
  have HR0 := hid (show r0.s = s ∧ r0.quiet = 0 by rw [hr0]; exact ⟨rfl, rfl⟩)
  rw [← hr0] at Q ⊢
  have HAT := hid (show Ty.At entryK w4 (fun j => w.heap.size ≤ j ∧ j < w4.heap.size ∧ ¬ M4 p b1 b2 b3 j) A4 r0.s.log.length c4 r0.s.log by
    rw [hr0]
    exact hat.mono (fun j hj => ⟨by have h1 := hj.1; have h4 := HSZ.out; have h6 := HP4.out; omega, hj.2, fun e => by have h1 := WNS.out j e; have h2 := hj.1; omega⟩))
  have H4S := hid k4.size
  clear hat k4 hr0
  obtain ⟨b9, hb9⟩ : ∃ q_, q_ = w4.heap.size := ⟨_, rfl⟩
  obtain ⟨w7, hw7⟩ : ∃ q_, q_ = w4.alloc (.cells #[.int .i64 r0.s.view, .int .i64 r0.s.normal, .int .i64 r0.s.commit, .int .i64 r0.s.active, .slice A4 r0.s.log.length c4] 26) := ⟨_, rfl⟩
  have C7 := hid (show Chg (fun _ => False) w4 w7 by rw [hw7]; exact (Chg.refl _ w4).alloc _)
  have B9 := hid (show w7.heap[b9]? = some (.cells #[.int .i64 r0.s.view, .int .i64 r0.s.normal, .int .i64 r0.s.commit, .int .i64 r0.s.active, .slice A4 r0.s.log.length c4] 26 (0, 0)) by rw [hw7, hb9]; exact blk_new w4 _)
  have HB9 := hid (show ¬ M4 p b1 b2 b3 b9 from fun e => by have := Q.out.lt b9 e; omega)
  have HB9E := hid hb9
  go_wp2_with fail
  rw [← hw7, ← hb9]
  clear hw7 hb9
  replace KK := hid (KK.out.trans C7.out (fun _ h _ => h.elim))
  obtain ⟨X9, hX9⟩ : ∃ Y : Nat → Prop, ∀ k, Y k ↔ (M4 p b1 b2 b3 k ∨ k = b9) := ⟨_, fun _ => Iff.rfl⟩
  have HX9 := hid hX9
  replace Q := hid ((Q.out.widen (Y := fun k => k = b9) C7.out (fun k hk => ⟨by rw [hk, HB9E.out]; exact Nat.le_refl _, by rw [hk]; exact lt_of_blk B9.out⟩)).less (X' := X9) (fun k hk => (hX9 k).2 (.inl hk)) (fun k hk => (hX9 k).1 hk))
  clear hX9
  replace BS := hid (C7.out.blk BS.out (fun h => h))
  have HB9S := hid (show w.heap.size ≤ b9 by have h2 := HB9E.out; have h6 := HP4.out; have h7 := HSZ.out; have h8 := H4S.out; omega)
  have HBSN := hid (show bs ≠ b9 by have h2 := HB9E.out; have h3 := HBSL.out; have h8 := H4S.out; omega)
  replace HAT := hid (show Ty.At entryK w7 (fun j => ¬ M4 p b1 b2 b3 j ∧ j ≠ b9) A4 r0.s.log.length c4 r0.s.log from (HAT.out.chg C7.out (fun _ _ h => h)).mono (fun j hj => ⟨hj.2.2, by have h1 := hj.2.1; have h2 := HB9E.out; omega⟩))
  go_loopw [35] (fun i wr => ∃ (q : Nat) (r : Rp) (A : Option Addr) (c : Nat), q ≤ ln ∧ i = .int .i64 q ∧ RQ wr p b1 b2 b3 X9 r ∧ (0 ≤ r.quiet ∧ r.quiet ≤ (q : Int)) ∧ r.s.active = s.active ∧ wr.heap[b9]? = some (.cells #[.int .i64 r.s.view, .int .i64 r.s.normal, .int .i64 r.s.commit, .int .i64 r.s.active, .slice A r.s.log.length c] 26 (0, 0)) ∧ Ty.At entryK wr (fun j => ¬ M4 p b1 b2 b3 j ∧ j ≠ b9) A r.s.log.length c r.s.log ∧ Chg (fun j => M4 p b1 b2 b3 j ∨ j = b9) w7 wr) (fun i _ => ln - (intOf i).toNat)
  case atStart => exact ⟨0, r0, A4, c4, Nat.zero_le _, rfl, Q.out, by rw [HR0.out.2]; exact ⟨Int.le_refl _, Int.le_refl _⟩, by rw [HR0.out.1], B9.out, HAT.out, Chg.refl _ _⟩
  case round =>
    obtain ⟨q, r, A1, c1, hq, rfl, hQ, hqt, hac, hb9, hat, hC⟩ := hrel
    have QQ := hid hQ
    have HC := hid hC
    have HQT := hid (show 0 ≤ r.quiet ∧ r.quiet ≤ 1000000 by have h1 := HLN.out; omega)
    have HQT2 := hid hqt
    have HAC := hid hac
    have B9r := hid hb9
    have HATr := hid hat
    have BSr := hid (hC.blk BS.out (fun e => by rcases e with e | e; exact HBS.out e; exact HBSN.out e))
    clear hQ hC hqt hac hb9 hat
    have CW := hid (show Chg (fun j => M4 p b1 b2 b3 j ∨ j = b9) w wr from (KK.out.mono (fun _ h _ => .inl h)).trans HC.out (fun _ h _ => h))
    by_cases hlt : q < ln
    · have hlt2 : (q : Int) < (ln : Int) := by omega
      obtain ⟨o, hx⟩ : ∃ o, l[q]? = some o := ⟨_, List.getElem?_eq_getElem (by have := LN.out; omega)⟩
      obtain ⟨a, cs, ha, haR, hK, hcs⟩ := (HLL.out.chg CW.out (fun k hk e => by have h1 : k < w.heap.size := hk; rcases e with e | e; have := MB.out k e; omega; have := HB9S.out; omega)).get (by decide) hx
      obtain ⟨E1, m1, d1, E2, m2, d2, B, k, d, rfl, hent, hmsg, _⟩ := op_open (id hK)
      subst ha
      have HCS := hid (show ∀ j v, ([.int .i64 o.kind, .int .i64 o.entry.view, .int .i64 o.entry.client, .int .i64 o.entry.request, .int .i64 o.entry.dflt, .int .i64 o.entry.closed, .int .i64 o.entry.fuel, .int .i64 o.entry.stack, .slice E1 m1 d1, .slice E2 m2 d2, .int .i64 o.msg.kind, .int .i64 o.msg.view, .int .i64 o.msg.src, .int .i64 o.msg.dst, .int .i64 o.msg.op, .int .i64 o.msg.commit, .int .i64 o.msg.normal, .slice B k d] : List Value)[j]? = some v → wr.cell? ((a.add (q * 18)).add j) = some v from fun j v hj => by rw [C.add_add]; exact hcs j v hj)
      have HEN := hid hent
      have HMS := hid hmsg
      obtain ⟨W1, hW1⟩ : ∃ W1, W1 = wr.alloc (.cells #[.int .i64 o.kind, .int .i64 o.entry.view, .int .i64 o.entry.client, .int .i64 o.entry.request, .int .i64 o.entry.dflt, .int .i64 o.entry.closed, .int .i64 o.entry.fuel, .int .i64 o.entry.stack, .slice E1 m1 d1, .slice E2 m2 d2, .int .i64 o.msg.kind, .int .i64 o.msg.view, .int .i64 o.msg.src, .int .i64 o.msg.dst, .int .i64 o.msg.op, .int .i64 o.msg.commit, .int .i64 o.msg.normal, .slice B k d] 58) := ⟨_, rfl⟩
      have CW1 := hid (show Chg (fun _ => False) wr W1 by rw [hW1]; exact (Chg.refl _ wr).alloc _)
      have BW1 := hid (show W1.heap[wr.heap.size]? = some (.cells #[.int .i64 o.kind, .int .i64 o.entry.view, .int .i64 o.entry.client, .int .i64 o.entry.request, .int .i64 o.entry.dflt, .int .i64 o.entry.closed, .int .i64 o.entry.fuel, .int .i64 o.entry.stack, .slice E1 m1 d1, .slice E2 m2 d2, .int .i64 o.msg.kind, .int .i64 o.msg.view, .int .i64 o.msg.src, .int .i64 o.msg.dst, .int .i64 o.msg.op, .int .i64 o.msg.commit, .int .i64 o.msg.normal, .slice B k d] 58 (0, 0)) by rw [hW1]; exact blk_new wr _)
      have HBX := hid (show ∀ j v, ([.int .i64 o.kind, .int .i64 o.entry.view, .int .i64 o.entry.client, .int .i64 o.entry.request, .int .i64 o.entry.dflt, .int .i64 o.entry.closed, .int .i64 o.entry.fuel, .int .i64 o.entry.stack, .slice E1 m1 d1, .slice E2 m2 d2, .int .i64 o.msg.kind, .int .i64 o.msg.view, .int .i64 o.msg.src, .int .i64 o.msg.dst, .int .i64 o.msg.op, .int .i64 o.msg.commit, .int .i64 o.msg.normal, .slice B k d] : List Value)[j]? = some v → (wr.alloc (.cells #[.int .i64 o.kind, .int .i64 o.entry.view, .int .i64 o.entry.client, .int .i64 o.entry.request, .int .i64 o.entry.dflt, .int .i64 o.entry.closed, .int .i64 o.entry.fuel, .int .i64 o.entry.stack, .slice E1 m1 d1, .slice E2 m2 d2, .int .i64 o.msg.kind, .int .i64 o.msg.view, .int .i64 o.msg.src, .int .i64 o.msg.dst, .int .i64 o.msg.op, .int .i64 o.msg.commit, .int .i64 o.msg.normal, .slice B k d] 58)).cell? ((⟨wr.heap.size, 0, none⟩ : Addr).add j) = some v from fun j v hj => by rw [← hW1, add_at, Nat.zero_add, cellAt BW1.out]; simpa using hj)
      have HW1 := hid hW1
      clear hW1
      clear hcs hK hx haR hent hmsg
      go_wp2_with (first | ((with_reducible refine at_dst (N := 38) rfl ?_); (refine load_agg_step wr rfl (.tmp 37) 58 rfl _ Try.underlying58 rfl (a.add (q * 18)) rfl ([.int .i64 o.kind, .int .i64 o.entry.view, .int .i64 o.entry.client, .int .i64 o.entry.request, .int .i64 o.entry.dflt, .int .i64 o.entry.closed, .int .i64 o.entry.fuel, .int .i64 o.entry.stack, .slice E1 m1 d1, .slice E2 m2 d2, .int .i64 o.msg.kind, .int .i64 o.msg.view, .int .i64 o.msg.src, .int .i64 o.msg.dst, .int .i64 o.msg.op, .int .i64 o.msg.commit, .int .i64 o.msg.normal, .slice B k d] : List Value) (by kernel_rfl) HCS.out ?_)) | (refine store_agg_step wr rfl (.tmp 11) (.tmp 38) 58 rfl #[.int .i64 0, .int .i64 0, .int .i64 0, .int .i64 0, .int .i64 0, .int .i64 0, .int .i64 0, .int .i64 0, .slice none 0 0, .slice none 0 0, .int .i64 0, .int .i64 0, .int .i64 0, .int .i64 0, .int .i64 0, .int .i64 0, .int .i64 0, .slice none 0 0] #[.int .i64 o.kind, .int .i64 o.entry.view, .int .i64 o.entry.client, .int .i64 o.entry.request, .int .i64 o.entry.dflt, .int .i64 o.entry.closed, .int .i64 o.entry.fuel, .int .i64 o.entry.stack, .slice E1 m1 d1, .slice E2 m2 d2, .int .i64 o.msg.kind, .int .i64 o.msg.view, .int .i64 o.msg.src, .int .i64 o.msg.dst, .int .i64 o.msg.op, .int .i64 o.msg.commit, .int .i64 o.msg.normal, .slice B k d] rfl rfl (by kernel_rfl) rfl (by first | kernel_rfl | simp [Value.oneCell']) ?_) | ((with_reducible refine at_dst (N := 40) rfl ?_); (refine load_agg_step (wr.alloc (.cells #[.int .i64 o.kind, .int .i64 o.entry.view, .int .i64 o.entry.client, .int .i64 o.entry.request, .int .i64 o.entry.dflt, .int .i64 o.entry.closed, .int .i64 o.entry.fuel, .int .i64 o.entry.stack, .slice E1 m1 d1, .slice E2 m2 d2, .int .i64 o.msg.kind, .int .i64 o.msg.view, .int .i64 o.msg.src, .int .i64 o.msg.dst, .int .i64 o.msg.op, .int .i64 o.msg.commit, .int .i64 o.msg.normal, .slice B k d] 58)) rfl (.tmp 11) 58 rfl _ Try.underlying58 rfl ⟨wr.heap.size, 0, none⟩ rfl ([.int .i64 o.kind, .int .i64 o.entry.view, .int .i64 o.entry.client, .int .i64 o.entry.request, .int .i64 o.entry.dflt, .int .i64 o.entry.closed, .int .i64 o.entry.fuel, .int .i64 o.entry.stack, .slice E1 m1 d1, .slice E2 m2 d2, .int .i64 o.msg.kind, .int .i64 o.msg.view, .int .i64 o.msg.src, .int .i64 o.msg.dst, .int .i64 o.msg.op, .int .i64 o.msg.commit, .int .i64 o.msg.normal, .slice B k d] : List Value) (by kernel_rfl) HBX.out ?_)))
      rw [← HW1.out]
      refine (does_any (QQ.out.far CW1.out) (EntryAt.chg HEN.out CW1.out (fun _ _ h => h)) (HMS.out.chg CW1.out (fun _ _ h => h)) (fun j hj _ e => by have h1 : j < w.heap.size := hj; have h2 := MB.out j e; omega) HQT.out).mono ?_
      rintro e w9 ⟨A10, c10, rfl, hq10, hv10, k10⟩
      obtain ⟨r1, hr1⟩ : ∃ q_, q_ = { (doesR r o).1 with out := [] } := ⟨_, rfl⟩
      have HR1 := hid hr1
      have HKE := hid (show Keep r.s r1.s by rw [hr1]; exact does_keep QQ.out.ok o)
      have HQ1 := hid (show 0 ≤ r1.quiet ∧ r1.quiet ≤ r.quiet + 1 by rw [hr1]; exact does_quiet HQT.out.1 o)
      have Q10 := hid (show RQ w9 p b1 b2 b3 X9 r1 by rw [hr1]; exact hq10)
      have K10 := hid (show Chg (M4 p b1 b2 b3) wr w9 from (CW1.out.mono (fun _ h _ => h.elim)).trans k10 (fun _ h _ => h))
      have HV10 := hid hv10
      have Z9 := hid (show wr.heap.size ≤ W1.heap.size from CW1.out.size)
      clear hq10 hv10 k10 hr1
      have B99 := hid (K10.out.blk B9r.out HB9.out)
      have HAT9 := hid (HATr.out.chg K10.out (fun j hj e => hj.1 e))
      have BS9 := hid (K10.out.blk BSr.out HBS.out)
      go_wp2_with fail
      refine (rq_state Q10.out).mono ?_
      rintro e w11 ⟨A11, c11, rfl, hat, k11⟩
      have Q11 := hid (Q10.out.far k11)
      have B911 := hid (k11.blk B99.out (fun h => h))
      have HAT11 := hid (HAT9.out.chg k11 (fun _ _ h => h))
      have BS11 := hid (k11.blk BS9.out (fun h => h))
      have HLT := hid (Q10.out.lt)
      have HBL := hid (lt_of_blk B99.out)
      have HNEW := hid (show Ty.At entryK w11 (fun j => (¬ M4 p b1 b2 b3 j ∧ j ≠ b9) ∧ j < w11.heap.size) A11 r1.s.log.length c11 r1.s.log from hat.mono (fun j hj => ⟨⟨fun e => by have := HLT.out j e; have := hj.1; omega, by have := HBL.out; have := hj.1; omega⟩, hj.2⟩))
      have K11 := hid (K10.out.trans k11 (fun _ h _ => h.elim))
      clear hat k11
      obtain ⟨b12, hb12⟩ : ∃ q_, q_ = w11.heap.size := ⟨_, rfl⟩
      obtain ⟨w12, hw12⟩ : ∃ q_, q_ = w11.alloc (.cells #[.int .i64 r1.s.view, .int .i64 r1.s.normal, .int .i64 r1.s.commit, .int .i64 r1.s.active, .slice A11 r1.s.log.length c11] 26) := ⟨_, rfl⟩
      have C12 := hid (show Chg (fun _ => False) w11 w12 by rw [hw12]; exact (Chg.refl _ w11).alloc _)
      have B12 := hid (show w12.heap[b12]? = some (.cells #[.int .i64 r1.s.view, .int .i64 r1.s.normal, .int .i64 r1.s.commit, .int .i64 r1.s.active, .slice A11 r1.s.log.length c11] 26 (0, 0)) by rw [hw12, hb12]; exact blk_new w11 _)
      have H12 := hid hb12
      go_wp2_with fail
      rw [← hw12, ← hb12]
      clear hw12 hb12
      have Q12 := hid (Q11.out.far C12.out)
      have B912 := hid (C12.out.blk B911.out (fun h => h))
      have BS12 := hid (C12.out.blk BS11.out (fun h => h))
      have OLD12 := hid (HAT11.out.chg C12.out (fun _ _ h => h))
      have NEW12 := hid (HNEW.out.chg C12.out (fun _ _ h => h))
      have HSN := hid (Q12.out.ok.st)
      have HSO := hid (QQ.out.ok.st)
      obtain ⟨cq, hcq⟩ : ∃ cq : Nat, r.s.commit = (cq : Int) := ⟨r.s.commit.toNat, by have := QQ.out.ok.stn; omega⟩
      have HCQ := hid hcq
      have hcut1 := fun W => cut_to (P := Try.prog) 24 56 .i64 Try.underlying24 (info_parts infoEntryP).choose_spec.1 A11 r1.s.log.length c11 cq (by have h1 := NEW12.out.2.1; have h2 := Q12.out.ok.stn; have h3 := HKE.out.commit; have h4 := HCQ.out; omega) W
      have hcut2 := fun W => cut_to (P := Try.prog) 24 56 .i64 Try.underlying24 (info_parts infoEntryP).choose_spec.1 A1 r.s.log.length c1 cq (by have h1 := OLD12.out.2.1; have h2 := QQ.out.ok.stn; have h4 := HCQ.out; omega) W
      have HSAME := hid (show r1.s.log.take cq = r.s.log.take cq by have h1 := HKE.out.log; have h2 := HCQ.out; rw [show r.s.commit.toNat = cq by omega] at h1; exact h1)
      have HC1L := hid (show cq ≤ r1.s.log.length by have h2 := Q12.out.ok.stn; have h3 := HKE.out.commit; have h4 := HCQ.out; omega)
      have HC2L := hid (show cq ≤ r.s.log.length by have h2 := QQ.out.ok.stn; have h4 := HCQ.out; omega)
      have v1 : ¬ r1.s.view < r.s.view := by have := HKE.out.view; omega
      have v2 : ¬ r1.s.normal < r.s.normal := by have := HKE.out.normal; omega
      have v3 : ¬ r1.s.commit < (cq : Int) := by have := HKE.out.commit; have := HCQ.out; omega
      have v4 : (r1.s.active != s.active) = false := by have h1 := HKE.out.active; have h2 := HAC.out; simp [h1, h2]
      rw [hcq] at B912
      clear hcq
      have N_0 : ∀ wx, Chg (fun _ => False) w12 wx → wx.cell? ⟨b12, 0, none⟩ = some (.int .i64 r1.s.view) := fun wx hx => (cellAt (hx.blk B12.out (fun h => h)) 0).trans rfl
      have N_1 : ∀ wx, Chg (fun _ => False) w12 wx → wx.cell? ⟨b12, 1, none⟩ = some (.int .i64 r1.s.normal) := fun wx hx => (cellAt (hx.blk B12.out (fun h => h)) 1).trans rfl
      have N_2 : ∀ wx, Chg (fun _ => False) w12 wx → wx.cell? ⟨b12, 2, none⟩ = some (.int .i64 r1.s.commit) := fun wx hx => (cellAt (hx.blk B12.out (fun h => h)) 2).trans rfl
      have N_3 : ∀ wx, Chg (fun _ => False) w12 wx → wx.cell? ⟨b12, 3, none⟩ = some (.int .i64 r1.s.active) := fun wx hx => (cellAt (hx.blk B12.out (fun h => h)) 3).trans rfl
      have N_4 : ∀ wx, Chg (fun _ => False) w12 wx → wx.cell? ⟨b12, 4, none⟩ = some (.slice A11 r1.s.log.length c11) := fun wx hx => (cellAt (hx.blk B12.out (fun h => h)) 4).trans rfl
      have W_0 : ∀ wx, Chg (fun _ => False) w12 wx → wx.cell? ⟨b9, 0, none⟩ = some (.int .i64 r.s.view) := fun wx hx => (cellAt (hx.blk B912.out (fun h => h)) 0).trans rfl
      have W_1 : ∀ wx, Chg (fun _ => False) w12 wx → wx.cell? ⟨b9, 1, none⟩ = some (.int .i64 r.s.normal) := fun wx hx => (cellAt (hx.blk B912.out (fun h => h)) 1).trans rfl
      have W_2 : ∀ wx, Chg (fun _ => False) w12 wx → wx.cell? ⟨b9, 2, none⟩ = some (.int .i64 (cq : Int)) := fun wx hx => (cellAt (hx.blk B912.out (fun h => h)) 2).trans rfl
      have W_3 : ∀ wx, Chg (fun _ => False) w12 wx → wx.cell? ⟨b9, 3, none⟩ = some (.int .i64 r.s.active) := fun wx hx => (cellAt (hx.blk B912.out (fun h => h)) 3).trans rfl
      have W_4 : ∀ wx, Chg (fun _ => False) w12 wx → wx.cell? ⟨b9, 4, none⟩ = some (.slice A1 r.s.log.length c1) := fun wx hx => (cellAt (hx.blk B912.out (fun h => h)) 4).trans rfl
      have G_3 : ∀ wx, Chg (fun _ => False) w12 wx → wx.cell? ⟨bs, 3, none⟩ = some (.int .i64 s.active) := fun wx hx => (cellAt (hx.blk BS12.out (fun h => h)) 3).trans rfl
      refine wpB_start (fun wx : World => Chg (fun _ => False) w12 wx) (by kernel_rfl) ?_
      have hHeld : (fun wx : World => Chg (fun _ => False) w12 wx) _ := (Chg.refl (fun _ => False) w12).drew
      -- 0: t44 := load 26 t12 : 26
      refine wpB_take (i := 0) (v := ?_) (get_of_drop rfl) (by kernel_rfl) (by kernel_rfl) (by kernel_rfl) (by kernel_rfl) (fun _ _ _ h => h) (Or.inl ⟨by rfl, ?_⟩) hHeld ?_
      rotate_left
      · (intro w hSw; (try dsimp only at hSw); go_simp <;> with_reducible rfl)
      try simp only [Act.put, List.setIfInBounds_toArray, List.set_cons_zero, List.set_cons_succ]
      -- 1: t45 := CALL fn42(t44) : 4 (BARRIER)
      refine wpB_bar (i := 1) (by kernel_rfl) (get_of_drop rfl) (by kernel_rfl) (fun K hK => ?_)
      go_simp
      refine (stright_any (NEW12.out.chg hHeld (fun _ _ h => h))).mono ?_
      rintro e' wy ⟨rfl, hwy⟩
      rw [HSN.out]
      have HW := hid (show Chg (fun _ => False) w12 wy from hHeld.trans hwy (fun _ h _ => h))
      clear hwy
      refine hK.out _ _ (fun wx : World => Chg (fun _ => False) w12 wx) ?_
      clear hHeld hK K
      have hHeld : (fun wx : World => Chg (fun _ => False) w12 wx) _ := (by first | assumption | exact HW.out | exact HW2.out)
      try simp only [Act.put, List.setIfInBounds_toArray, List.set_cons_zero, List.set_cons_succ]
      -- 2: t46 := unOp UnOp.not 4 t45 : 4
      refine wpB_take (i := 2) (v := ?_) (get_of_drop rfl) (by kernel_rfl) (by kernel_rfl) (by kernel_rfl) (by kernel_rfl) (fun _ _ _ h => h) (Or.inl ⟨by rfl, ?_⟩) hHeld ?_
      rotate_left
      · (intro w hSw; (try dsimp only at hSw); go_simp <;> with_reducible rfl)
      try simp only [Act.put, List.setIfInBounds_toArray, List.set_cons_zero, List.set_cons_succ]
      -- 3: t47 := move t46 : 4
      refine wpB_take (i := 3) (v := ?_) (get_of_drop rfl) (by kernel_rfl) (by kernel_rfl) (by kernel_rfl) (by kernel_rfl) (fun _ _ _ h => h) (Or.inl ⟨by rfl, ?_⟩) hHeld ?_
      rotate_left
      · (intro w hSw; (try dsimp only at hSw); go_simp <;> with_reducible rfl)
      try simp only [Act.put, List.setIfInBounds_toArray, List.set_cons_zero, List.set_cons_succ]
      -- 4: t48 := fieldAddr 26 t12 0 : 0   [if ⟨3, false⟩]
      refine wpB_take (i := 4) (v := ?_) (get_of_drop rfl) (by kernel_rfl) (by kernel_rfl) (by kernel_rfl) (by kernel_rfl) (fun _ _ _ h => h) (Or.inl ⟨by rfl, ?_⟩) hHeld ?_
      rotate_left
      · (intro w hSw; (try dsimp only at hSw); go_simp <;> with_reducible rfl)
      try simp only [Act.put, List.setIfInBounds_toArray, List.set_cons_zero, List.set_cons_succ]
      -- 5: t49 := load 3 t48 : 3   [if ⟨3, false⟩]
      refine wpB_take (i := 5) (v := ?_) (get_of_drop rfl) (by kernel_rfl) (by kernel_rfl) (by kernel_rfl) (by kernel_rfl) (fun _ _ _ h => h) (Or.inl ⟨by rfl, ?_⟩) hHeld ?_
      rotate_left
      · (intro w hSw; (try dsimp only at hSw); go_simp <;> with_reducible rfl)
      try simp only [Act.put, List.setIfInBounds_toArray, List.set_cons_zero, List.set_cons_succ]
      -- 6: t50 := fieldAddr 26 t9 0 : 0   [if ⟨3, false⟩]
      refine wpB_take (i := 6) (v := ?_) (get_of_drop rfl) (by kernel_rfl) (by kernel_rfl) (by kernel_rfl) (by kernel_rfl) (fun _ _ _ h => h) (Or.inl ⟨by rfl, ?_⟩) hHeld ?_
      rotate_left
      · (intro w hSw; (try dsimp only at hSw); go_simp <;> with_reducible rfl)
      try simp only [Act.put, List.setIfInBounds_toArray, List.set_cons_zero, List.set_cons_succ]
      -- 7: t51 := load 3 t50 : 3   [if ⟨3, false⟩]
      refine wpB_take (i := 7) (v := ?_) (get_of_drop rfl) (by kernel_rfl) (by kernel_rfl) (by kernel_rfl) (by kernel_rfl) (fun _ _ _ h => h) (Or.inl ⟨by rfl, ?_⟩) hHeld ?_
      rotate_left
      · (intro w hSw; (try dsimp only at hSw); go_simp <;> with_reducible rfl)
      try simp only [Act.put, List.setIfInBounds_toArray, List.set_cons_zero, List.set_cons_succ]
      -- 8: t52 := binOp BinOp.lss 3 t49 t51 3 : 4   [if ⟨3, false⟩]
      refine wpB_take (i := 8) (v := ?_) (get_of_drop rfl) (by kernel_rfl) (by kernel_rfl) (by kernel_rfl) (by kernel_rfl) (fun _ _ _ h => h) (Or.inl ⟨by rfl, ?_⟩) hHeld ?_
      rotate_left
      · (intro w hSw; (try dsimp only at hSw); go_simp <;> with_reducible rfl)
      try simp only [Act.put, List.setIfInBounds_toArray, List.set_cons_zero, List.set_cons_succ]
      -- 9: t53 := pick t47 #true t52 : 4
      refine wpB_take (i := 9) (v := ?_) (get_of_drop rfl) (by kernel_rfl) (by kernel_rfl) (by kernel_rfl) (by kernel_rfl) (fun _ _ _ h => h) (Or.inl ⟨by rfl, ?_⟩) hHeld ?_
      rotate_left
      · (intro w hSw; (try dsimp only at hSw); go_simp <;> with_reducible rfl)
      try simp only [Act.put, List.setIfInBounds_toArray, List.set_cons_zero, List.set_cons_succ]
      -- 10: t54 := move t53 : 4
      refine wpB_take (i := 10) (v := ?_) (get_of_drop rfl) (by kernel_rfl) (by kernel_rfl) (by kernel_rfl) (by kernel_rfl) (fun _ _ _ h => h) (Or.inl ⟨by rfl, ?_⟩) hHeld ?_
      rotate_left
      · (intro w hSw; (try dsimp only at hSw); go_simp <;> with_reducible rfl)
      try simp only [Act.put, List.setIfInBounds_toArray, List.set_cons_zero, List.set_cons_succ]
      -- 11: t55 := fieldAddr 26 t12 1 : 0   [if ⟨10, false⟩]
      refine wpB_take (i := 11) (v := ?_) (get_of_drop rfl) (by kernel_rfl) (by kernel_rfl) (by kernel_rfl) (by kernel_rfl) (fun _ _ _ h => h) (Or.inl ⟨by rfl, ?_⟩) hHeld ?_
      rotate_left
      · (intro w hSw; (try dsimp only at hSw); go_simp <;> with_reducible rfl)
      try simp only [Act.put, List.setIfInBounds_toArray, List.set_cons_zero, List.set_cons_succ]
      -- 12: t56 := load 3 t55 : 3   [if ⟨10, false⟩]
      refine wpB_take (i := 12) (v := ?_) (get_of_drop rfl) (by kernel_rfl) (by kernel_rfl) (by kernel_rfl) (by kernel_rfl) (fun _ _ _ h => h) (Or.inl ⟨by rfl, ?_⟩) hHeld ?_
      rotate_left
      · (intro w hSw; (try dsimp only at hSw); go_simp <;> with_reducible rfl)
      try simp only [Act.put, List.setIfInBounds_toArray, List.set_cons_zero, List.set_cons_succ]
      -- 13: t57 := fieldAddr 26 t9 1 : 0   [if ⟨10, false⟩]
      refine wpB_take (i := 13) (v := ?_) (get_of_drop rfl) (by kernel_rfl) (by kernel_rfl) (by kernel_rfl) (by kernel_rfl) (fun _ _ _ h => h) (Or.inl ⟨by rfl, ?_⟩) hHeld ?_
      rotate_left
      · (intro w hSw; (try dsimp only at hSw); go_simp <;> with_reducible rfl)
      try simp only [Act.put, List.setIfInBounds_toArray, List.set_cons_zero, List.set_cons_succ]
      -- 14: t58 := load 3 t57 : 3   [if ⟨10, false⟩]
      refine wpB_take (i := 14) (v := ?_) (get_of_drop rfl) (by kernel_rfl) (by kernel_rfl) (by kernel_rfl) (by kernel_rfl) (fun _ _ _ h => h) (Or.inl ⟨by rfl, ?_⟩) hHeld ?_
      rotate_left
      · (intro w hSw; (try dsimp only at hSw); go_simp <;> with_reducible rfl)
      try simp only [Act.put, List.setIfInBounds_toArray, List.set_cons_zero, List.set_cons_succ]
      -- 15: t59 := binOp BinOp.lss 3 t56 t58 3 : 4   [if ⟨10, false⟩]
      refine wpB_take (i := 15) (v := ?_) (get_of_drop rfl) (by kernel_rfl) (by kernel_rfl) (by kernel_rfl) (by kernel_rfl) (fun _ _ _ h => h) (Or.inl ⟨by rfl, ?_⟩) hHeld ?_
      rotate_left
      · (intro w hSw; (try dsimp only at hSw); go_simp <;> with_reducible rfl)
      try simp only [Act.put, List.setIfInBounds_toArray, List.set_cons_zero, List.set_cons_succ]
      -- 16: t60 := pick t54 #true t59 : 4
      refine wpB_take (i := 16) (v := ?_) (get_of_drop rfl) (by kernel_rfl) (by kernel_rfl) (by kernel_rfl) (by kernel_rfl) (fun _ _ _ h => h) (Or.inl ⟨by rfl, ?_⟩) hHeld ?_
      rotate_left
      · (intro w hSw; (try dsimp only at hSw); go_simp <;> with_reducible rfl)
      try simp only [Act.put, List.setIfInBounds_toArray, List.set_cons_zero, List.set_cons_succ]
      -- 17: t61 := move t60 : 4
      refine wpB_take (i := 17) (v := ?_) (get_of_drop rfl) (by kernel_rfl) (by kernel_rfl) (by kernel_rfl) (by kernel_rfl) (fun _ _ _ h => h) (Or.inl ⟨by rfl, ?_⟩) hHeld ?_
      rotate_left
      · (intro w hSw; (try dsimp only at hSw); go_simp <;> with_reducible rfl)
      try simp only [Act.put, List.setIfInBounds_toArray, List.set_cons_zero, List.set_cons_succ]
      -- 18: t62 := fieldAddr 26 t12 2 : 0   [if ⟨17, false⟩]
      refine wpB_take (i := 18) (v := ?_) (get_of_drop rfl) (by kernel_rfl) (by kernel_rfl) (by kernel_rfl) (by kernel_rfl) (fun _ _ _ h => h) (Or.inl ⟨by rfl, ?_⟩) hHeld ?_
      rotate_left
      · (intro w hSw; (try dsimp only at hSw); go_simp <;> with_reducible rfl)
      try simp only [Act.put, List.setIfInBounds_toArray, List.set_cons_zero, List.set_cons_succ]
      -- 19: t63 := load 3 t62 : 3   [if ⟨17, false⟩]
      refine wpB_take (i := 19) (v := ?_) (get_of_drop rfl) (by kernel_rfl) (by kernel_rfl) (by kernel_rfl) (by kernel_rfl) (fun _ _ _ h => h) (Or.inl ⟨by rfl, ?_⟩) hHeld ?_
      rotate_left
      · (intro w hSw; (try dsimp only at hSw); go_simp <;> with_reducible rfl)
      try simp only [Act.put, List.setIfInBounds_toArray, List.set_cons_zero, List.set_cons_succ]
      -- 20: t64 := fieldAddr 26 t9 2 : 0   [if ⟨17, false⟩]
      refine wpB_take (i := 20) (v := ?_) (get_of_drop rfl) (by kernel_rfl) (by kernel_rfl) (by kernel_rfl) (by kernel_rfl) (fun _ _ _ h => h) (Or.inl ⟨by rfl, ?_⟩) hHeld ?_
      rotate_left
      · (intro w hSw; (try dsimp only at hSw); go_simp <;> with_reducible rfl)
      try simp only [Act.put, List.setIfInBounds_toArray, List.set_cons_zero, List.set_cons_succ]
      -- 21: t65 := load 3 t64 : 3   [if ⟨17, false⟩]
      refine wpB_take (i := 21) (v := ?_) (get_of_drop rfl) (by kernel_rfl) (by kernel_rfl) (by kernel_rfl) (by kernel_rfl) (fun _ _ _ h => h) (Or.inl ⟨by rfl, ?_⟩) hHeld ?_
      rotate_left
      · (intro w hSw; (try dsimp only at hSw); go_simp <;> with_reducible rfl)
      try simp only [Act.put, List.setIfInBounds_toArray, List.set_cons_zero, List.set_cons_succ]
      -- 22: t66 := binOp BinOp.lss 3 t63 t65 3 : 4   [if ⟨17, false⟩]
      refine wpB_take (i := 22) (v := ?_) (get_of_drop rfl) (by kernel_rfl) (by kernel_rfl) (by kernel_rfl) (by kernel_rfl) (fun _ _ _ h => h) (Or.inl ⟨by rfl, ?_⟩) hHeld ?_
      rotate_left
      · (intro w hSw; (try dsimp only at hSw); go_simp <;> with_reducible rfl)
      try simp only [Act.put, List.setIfInBounds_toArray, List.set_cons_zero, List.set_cons_succ]
      -- 23: t67 := pick t61 #true t66 : 4
      refine wpB_take (i := 23) (v := ?_) (get_of_drop rfl) (by kernel_rfl) (by kernel_rfl) (by kernel_rfl) (by kernel_rfl) (fun _ _ _ h => h) (Or.inl ⟨by rfl, ?_⟩) hHeld ?_
      rotate_left
      · (intro w hSw; (try dsimp only at hSw); go_simp <;> with_reducible rfl)
      try simp only [Act.put, List.setIfInBounds_toArray, List.set_cons_zero, List.set_cons_succ]
      -- 24: t68 := move t67 : 4
      refine wpB_take (i := 24) (v := ?_) (get_of_drop rfl) (by kernel_rfl) (by kernel_rfl) (by kernel_rfl) (by kernel_rfl) (fun _ _ _ h => h) (Or.inl ⟨by rfl, ?_⟩) hHeld ?_
      rotate_left
      · (intro w hSw; (try dsimp only at hSw); go_simp <;> with_reducible rfl)
      try simp only [Act.put, List.setIfInBounds_toArray, List.set_cons_zero, List.set_cons_succ]
      -- 25: t69 := fieldAddr 26 t12 4 : 0   [if ⟨24, false⟩]
      refine wpB_take (i := 25) (v := ?_) (get_of_drop rfl) (by kernel_rfl) (by kernel_rfl) (by kernel_rfl) (by kernel_rfl) (fun _ _ _ h => h) (Or.inl ⟨by rfl, ?_⟩) hHeld ?_
      rotate_left
      · (intro w hSw; (try dsimp only at hSw); go_simp <;> with_reducible rfl)
      try simp only [Act.put, List.setIfInBounds_toArray, List.set_cons_zero, List.set_cons_succ]
      -- 26: t70 := load 24 t69 : 24   [if ⟨24, false⟩]
      refine wpB_take (i := 26) (v := ?_) (get_of_drop rfl) (by kernel_rfl) (by kernel_rfl) (by kernel_rfl) (by kernel_rfl) (fun _ _ _ h => h) (Or.inl ⟨by rfl, ?_⟩) hHeld ?_
      rotate_left
      · (intro w hSw; (try dsimp only at hSw); go_simp <;> with_reducible rfl)
      try simp only [Act.put, List.setIfInBounds_toArray, List.set_cons_zero, List.set_cons_succ]
      -- 27: t71 := fieldAddr 26 t9 2 : 0   [if ⟨24, false⟩]
      refine wpB_take (i := 27) (v := ?_) (get_of_drop rfl) (by kernel_rfl) (by kernel_rfl) (by kernel_rfl) (by kernel_rfl) (fun _ _ _ h => h) (Or.inl ⟨by rfl, ?_⟩) hHeld ?_
      rotate_left
      · (intro w hSw; (try dsimp only at hSw); go_simp <;> with_reducible rfl)
      try simp only [Act.put, List.setIfInBounds_toArray, List.set_cons_zero, List.set_cons_succ]
      -- 28: t72 := load 3 t71 : 3   [if ⟨24, false⟩]
      refine wpB_take (i := 28) (v := ?_) (get_of_drop rfl) (by kernel_rfl) (by kernel_rfl) (by kernel_rfl) (by kernel_rfl) (fun _ _ _ h => h) (Or.inl ⟨by rfl, ?_⟩) hHeld ?_
      rotate_left
      · (intro w hSw; (try dsimp only at hSw); go_simp <;> with_reducible rfl)
      try simp only [Act.put, List.setIfInBounds_toArray, List.set_cons_zero, List.set_cons_succ]
      -- 29: t73 := slice 24 t70 none some t72 none : 24   [if ⟨24, false⟩]
      refine wpB_take (i := 29) (v := ?_) (get_of_drop rfl) (by kernel_rfl) (by kernel_rfl) (by kernel_rfl) (by kernel_rfl) (fun _ _ _ h => h) (Or.inl ⟨by rfl, ?_⟩) hHeld ?_
      rotate_left
      · (intro w hSw; (try dsimp only at hSw); go_simp <;> with_reducible rfl)
      try simp only [Act.put, List.setIfInBounds_toArray, List.set_cons_zero, List.set_cons_succ]
      -- 30: t74 := fieldAddr 26 t9 4 : 0   [if ⟨24, false⟩]
      refine wpB_take (i := 30) (v := ?_) (get_of_drop rfl) (by kernel_rfl) (by kernel_rfl) (by kernel_rfl) (by kernel_rfl) (fun _ _ _ h => h) (Or.inl ⟨by rfl, ?_⟩) hHeld ?_
      rotate_left
      · (intro w hSw; (try dsimp only at hSw); go_simp <;> with_reducible rfl)
      try simp only [Act.put, List.setIfInBounds_toArray, List.set_cons_zero, List.set_cons_succ]
      -- 31: t75 := load 24 t74 : 24   [if ⟨24, false⟩]
      refine wpB_take (i := 31) (v := ?_) (get_of_drop rfl) (by kernel_rfl) (by kernel_rfl) (by kernel_rfl) (by kernel_rfl) (fun _ _ _ h => h) (Or.inl ⟨by rfl, ?_⟩) hHeld ?_
      rotate_left
      · (intro w hSw; (try dsimp only at hSw); go_simp <;> with_reducible rfl)
      try simp only [Act.put, List.setIfInBounds_toArray, List.set_cons_zero, List.set_cons_succ]
      -- 32: t76 := fieldAddr 26 t9 2 : 0   [if ⟨24, false⟩]
      refine wpB_take (i := 32) (v := ?_) (get_of_drop rfl) (by kernel_rfl) (by kernel_rfl) (by kernel_rfl) (by kernel_rfl) (fun _ _ _ h => h) (Or.inl ⟨by rfl, ?_⟩) hHeld ?_
      rotate_left
      · (intro w hSw; (try dsimp only at hSw); go_simp <;> with_reducible rfl)
      try simp only [Act.put, List.setIfInBounds_toArray, List.set_cons_zero, List.set_cons_succ]
      -- 33: t77 := load 3 t76 : 3   [if ⟨24, false⟩]
      refine wpB_take (i := 33) (v := ?_) (get_of_drop rfl) (by kernel_rfl) (by kernel_rfl) (by kernel_rfl) (by kernel_rfl) (fun _ _ _ h => h) (Or.inl ⟨by rfl, ?_⟩) hHeld ?_
      rotate_left
      · (intro w hSw; (try dsimp only at hSw); go_simp <;> with_reducible rfl)
      try simp only [Act.put, List.setIfInBounds_toArray, List.set_cons_zero, List.set_cons_succ]
      -- 34: t78 := slice 24 t75 none some t77 none : 24   [if ⟨24, false⟩]
      refine wpB_take (i := 34) (v := ?_) (get_of_drop rfl) (by kernel_rfl) (by kernel_rfl) (by kernel_rfl) (by kernel_rfl) (fun _ _ _ h => h) (Or.inl ⟨by rfl, ?_⟩) hHeld ?_
      rotate_left
      · (intro w hSw; (try dsimp only at hSw); go_simp <;> with_reducible rfl)
      try simp only [Act.put, List.setIfInBounds_toArray, List.set_cons_zero, List.set_cons_succ]
      -- 35: t79 := CALL fn35(t73, t78) : 4   [if ⟨24, false⟩] (BARRIER)
      refine wpB_bar (i := 35) (by kernel_rfl) (get_of_drop rfl) (by kernel_rfl) (fun K hK => ?_)
      go_simp
      refine (Same_any ((NEW12.out.chg hHeld (fun _ _ h => h)).to_ HC1L.out) ((OLD12.out.chg hHeld (fun _ _ h => h)).to_ HC2L.out)).mono ?_
      rintro e' wz ⟨rfl, hwz⟩
      rw [decide_eq_true HSAME.out]
      have HW2 := hid (show Chg (fun _ => False) w12 wz from hHeld.trans hwz (fun _ h _ => h))
      clear hwz
      refine hK.out _ _ (fun wx : World => Chg (fun _ => False) w12 wx) ?_
      clear hHeld hK K
      have hHeld : (fun wx : World => Chg (fun _ => False) w12 wx) _ := (by first | assumption | exact HW.out | exact HW2.out)
      try simp only [Act.put, List.setIfInBounds_toArray, List.set_cons_zero, List.set_cons_succ]
      -- 36: t80 := unOp UnOp.not 4 t79 : 4   [if ⟨24, false⟩]
      refine wpB_take (i := 36) (v := ?_) (get_of_drop rfl) (by kernel_rfl) (by kernel_rfl) (by kernel_rfl) (by kernel_rfl) (fun _ _ _ h => h) (Or.inl ⟨by rfl, ?_⟩) hHeld ?_
      rotate_left
      · (intro w hSw; (try dsimp only at hSw); go_simp <;> with_reducible rfl)
      try simp only [Act.put, List.setIfInBounds_toArray, List.set_cons_zero, List.set_cons_succ]
      -- 37: t81 := pick t68 #true t80 : 4
      refine wpB_take (i := 37) (v := ?_) (get_of_drop rfl) (by kernel_rfl) (by kernel_rfl) (by kernel_rfl) (by kernel_rfl) (fun _ _ _ h => h) (Or.inl ⟨by rfl, ?_⟩) hHeld ?_
      rotate_left
      · (intro w hSw; (try dsimp only at hSw); go_simp <;> with_reducible rfl)
      try simp only [Act.put, List.setIfInBounds_toArray, List.set_cons_zero, List.set_cons_succ]
      -- 38: t82 := move t81 : 4
      refine wpB_take (i := 38) (v := ?_) (get_of_drop rfl) (by kernel_rfl) (by kernel_rfl) (by kernel_rfl) (by kernel_rfl) (fun _ _ _ h => h) (Or.inl ⟨by rfl, ?_⟩) hHeld ?_
      rotate_left
      · (intro w hSw; (try dsimp only at hSw); go_simp <;> with_reducible rfl)
      try simp only [Act.put, List.setIfInBounds_toArray, List.set_cons_zero, List.set_cons_succ]
      -- 39: t83 := fieldAddr 26 t12 3 : 0   [if ⟨38, false⟩]
      refine wpB_take (i := 39) (v := ?_) (get_of_drop rfl) (by kernel_rfl) (by kernel_rfl) (by kernel_rfl) (by kernel_rfl) (fun _ _ _ h => h) (Or.inl ⟨by rfl, ?_⟩) hHeld ?_
      rotate_left
      · (intro w hSw; (try dsimp only at hSw); go_simp <;> with_reducible rfl)
      try simp only [Act.put, List.setIfInBounds_toArray, List.set_cons_zero, List.set_cons_succ]
      -- 40: t84 := load 3 t83 : 3   [if ⟨38, false⟩]
      refine wpB_take (i := 40) (v := ?_) (get_of_drop rfl) (by kernel_rfl) (by kernel_rfl) (by kernel_rfl) (by kernel_rfl) (fun _ _ _ h => h) (Or.inl ⟨by rfl, ?_⟩) hHeld ?_
      rotate_left
      · (intro w hSw; (try dsimp only at hSw); go_simp <;> with_reducible rfl)
      try simp only [Act.put, List.setIfInBounds_toArray, List.set_cons_zero, List.set_cons_succ]
      -- 41: t85 := fieldAddr 26 t4 3 : 0   [if ⟨38, false⟩]
      refine wpB_take (i := 41) (v := ?_) (get_of_drop rfl) (by kernel_rfl) (by kernel_rfl) (by kernel_rfl) (by kernel_rfl) (fun _ _ _ h => h) (Or.inl ⟨by rfl, ?_⟩) hHeld ?_
      rotate_left
      · (intro w hSw; (try dsimp only at hSw); go_simp <;> with_reducible rfl)
      try simp only [Act.put, List.setIfInBounds_toArray, List.set_cons_zero, List.set_cons_succ]
      -- 42: t86 := load 3 t85 : 3   [if ⟨38, false⟩]
      refine wpB_take (i := 42) (v := ?_) (get_of_drop rfl) (by kernel_rfl) (by kernel_rfl) (by kernel_rfl) (by kernel_rfl) (fun _ _ _ h => h) (Or.inl ⟨by rfl, ?_⟩) hHeld ?_
      rotate_left
      · (intro w hSw; (try dsimp only at hSw); go_simp <;> with_reducible rfl)
      try simp only [Act.put, List.setIfInBounds_toArray, List.set_cons_zero, List.set_cons_succ]
      -- 43: t87 := binOp BinOp.neq 3 t84 t86 3 : 4   [if ⟨38, false⟩]
      refine wpB_take (i := 43) (v := ?_) (get_of_drop rfl) (by kernel_rfl) (by kernel_rfl) (by kernel_rfl) (by kernel_rfl) (fun _ _ _ h => h) (Or.inl ⟨by rfl, ?_⟩) hHeld ?_
      rotate_left
      · (intro w hSw; (try dsimp only at hSw); go_simp <;> with_reducible rfl)
      try simp only [Act.put, List.setIfInBounds_toArray, List.set_cons_zero, List.set_cons_succ]
      -- 44: t88 := pick t82 #true t87 : 4
      refine wpB_take (i := 44) (v := ?_) (get_of_drop rfl) (by kernel_rfl) (by kernel_rfl) (by kernel_rfl) (by kernel_rfl) (fun _ _ _ h => h) (Or.inl ⟨by rfl, ?_⟩) hHeld ?_
      rotate_left
      · (intro w hSw; (try dsimp only at hSw); go_simp <;> with_reducible rfl)
      try simp only [Act.put, List.setIfInBounds_toArray, List.set_cons_zero, List.set_cons_succ]
      refine wpB_done (by kernel_rfl) ?_ _
      clear hHeld v1 v2 v3 v4 hcut1 hcut2 G_3 N_0 W_0 N_1 W_1 N_2 W_2 N_3 W_3 N_4 W_4
      have N13 := hid (HW2.out.blk B12.out (fun h => h))
      have W13 := hid (HW2.out.blk B912.out (fun h => h))
      have n0 : wz.cell? ⟨b12, 0, none⟩ = some (.int .i64 r1.s.view) := (cellAt N13.out 0).trans rfl
      have n1 : wz.cell? ⟨b12, 1, none⟩ = some (.int .i64 r1.s.normal) := (cellAt N13.out 1).trans rfl
      have n2 : wz.cell? ⟨b12, 2, none⟩ = some (.int .i64 r1.s.commit) := (cellAt N13.out 2).trans rfl
      have n3 : wz.cell? ⟨b12, 3, none⟩ = some (.int .i64 r1.s.active) := (cellAt N13.out 3).trans rfl
      have n4 : wz.cell? ⟨b12, 4, none⟩ = some (.slice A11 r1.s.log.length c11) := (cellAt N13.out 4).trans rfl
      have o0 : wz.cell? ⟨b9, 0, none⟩ = some (.int .i64 r.s.view) := (cellAt W13.out 0).trans rfl
      have o1 : wz.cell? ⟨b9, 1, none⟩ = some (.int .i64 r.s.normal) := (cellAt W13.out 1).trans rfl
      have o2 : wz.cell? ⟨b9, 2, none⟩ = some (.int .i64 (cq : Int)) := (cellAt W13.out 2).trans rfl
      have o3 : wz.cell? ⟨b9, 3, none⟩ = some (.int .i64 r.s.active) := (cellAt W13.out 3).trans rfl
      have o4 : wz.cell? ⟨b9, 4, none⟩ = some (.slice A1 r.s.log.length c1) := (cellAt W13.out 4).trans rfl
      go_wp2_with fail
      clear n0 n1 n2 n3 n4 o0 o1 o2 o3 o4
      refine (between_any (a := { r.s with commit := (cq : Int) }) (b := r1.s) (OLD12.out.chg HW2.out (fun _ _ h => h)) (NEW12.out.chg HW2.out (fun _ _ h => h))).mono ?_
      rintro e w14 ⟨A14, n14, c14, rfl, _, k14⟩
      have HBT := hid (show (betweenS { r.s with commit := (cq : Int) } r1.s).2 = 0 by rw [← HCQ.out]; exact keep_between HSO.out HSN.out HKE.out)
      rw [HBT.out]
      have K14 := hid (show Chg (fun _ => False) w12 w14 from HW2.out.trans k14 (fun _ h _ => h))
      have N14 := hid (k14.blk N13.out (fun h => h))
      have W14 := hid (k14.blk W13.out (fun h => h))
      clear k14
      have n0 : w14.cell? ⟨b12, 0, none⟩ = some (.int .i64 r1.s.view) := (cellAt N14.out 0).trans rfl
      have n1 : w14.cell? ⟨b12, 1, none⟩ = some (.int .i64 r1.s.normal) := (cellAt N14.out 1).trans rfl
      have n2 : w14.cell? ⟨b12, 2, none⟩ = some (.int .i64 r1.s.commit) := (cellAt N14.out 2).trans rfl
      have n3 : w14.cell? ⟨b12, 3, none⟩ = some (.int .i64 r1.s.active) := (cellAt N14.out 3).trans rfl
      have n4 : w14.cell? ⟨b12, 4, none⟩ = some (.slice A11 r1.s.log.length c11) := (cellAt N14.out 4).trans rfl
      have o0 : w14.cell? ⟨b9, 0, none⟩ = some (.int .i64 r.s.view) := (cellAt W14.out 0).trans rfl
      have o1 : w14.cell? ⟨b9, 1, none⟩ = some (.int .i64 r.s.normal) := (cellAt W14.out 1).trans rfl
      have o2 : w14.cell? ⟨b9, 2, none⟩ = some (.int .i64 (cq : Int)) := (cellAt W14.out 2).trans rfl
      have o3 : w14.cell? ⟨b9, 3, none⟩ = some (.int .i64 r.s.active) := (cellAt W14.out 3).trans rfl
      have o4 : w14.cell? ⟨b9, 4, none⟩ = some (.slice A1 r.s.log.length c1) := (cellAt W14.out 4).trans rfl
      have f0 : w14.frozen? ⟨b9, 0, none⟩ = false := freeAt W14.out 0
      have f1 : w14.frozen? ⟨b9, 1, none⟩ = false := freeAt W14.out 1
      have f2 : w14.frozen? ⟨b9, 2, none⟩ = false := freeAt W14.out 2
      have f3 : w14.frozen? ⟨b9, 3, none⟩ = false := freeAt W14.out 3
      have f4 : w14.frozen? ⟨b9, 4, none⟩ = false := freeAt W14.out 4
      go_wp2_with fail
      clear n0 n1 n2 n3 n4 o0 o1 o2 o3 o4 f0 f1 f2 f3 f4
      obtain ⟨PB, PC⟩ := put_blk [(.int .i64 r1.s.view : Value), .int .i64 r1.s.normal, .int .i64 r1.s.commit, .int .i64 r1.s.active, .slice A11 r1.s.log.length c11] w14 _ W14.out rfl
      obtain ⟨w15, hw15⟩ : ∃ q_, q_ = (((((w14.setCell ⟨b9, 0, none⟩ (.int .i64 r1.s.view)).setCell ⟨b9, 1, none⟩ (.int .i64 r1.s.normal)).setCell ⟨b9, 2, none⟩ (.int .i64 r1.s.commit)).setCell ⟨b9, 3, none⟩ (.int .i64 r1.s.active)).setCell ⟨b9, 4, none⟩ (.slice A11 r1.s.log.length c11)) := ⟨_, rfl⟩
      have B15 := hid (show w15.heap[b9]? = some (.cells #[.int .i64 r1.s.view, .int .i64 r1.s.normal, .int .i64 r1.s.commit, .int .i64 r1.s.active, .slice A11 r1.s.log.length c11] 26 (0, 0)) by rw [hw15]; exact PB)
      have K15 := hid (show Chg (fun j => j = b9) w14 w15 by rw [hw15]; exact PC)
      clear PB PC
      have QF := hid (show RQ w15 p b1 b2 b3 X9 r1 from ((Q12.out.far K14.out).chg K15.out (fun k hk _ => ⟨(HX9.out k).2 (.inr hk), fun e => HB9.out (by rw [← hk]; exact e)⟩)))
      have HATF := hid (show Ty.At entryK w15 (fun j => ¬ M4 p b1 b2 b3 j ∧ j ≠ b9) A11 r1.s.log.length c11 r1.s.log from ((NEW12.out.chg K14.out (fun _ _ h => h)).chg K15.out (fun j hj e => hj.1.2 e)).mono (fun j hj => hj.1))
      have CF := hid (show Chg (fun j => M4 p b1 b2 b3 j ∨ j = b9) w7 w15 from ((((HC.out.trans K11.out (fun _ h _ => .inl h)).trans C12.out (fun _ h _ => h.elim)).trans K14.out (fun _ h _ => h.elim)).trans K15.out (fun _ h _ => .inr h)))
      rw [← hw15]
      clear hw15
      go_roundw
      case measure => simp [intOf]; omega
      case rel => first | exact ⟨q + 1, r1, A11, c11, hlt, by go_num, QF.out, by have := HQ1.out; have := HQT2.out; omega, by rw [HKE.out.active]; exact HAC.out, B15.out, HATF.out, CF.out⟩ | ((repeat apply Exists.intro); exact ⟨⟨q + 1, r1, A11, c11, hlt, by go_num, QF.out, by have := HQ1.out; have := HQT2.out; omega, by rw [HKE.out.active]; exact HAC.out, B15.out, HATF.out, CF.out⟩, rfl⟩)
    · have hqn : ¬ (q : Int) < (ln : Int) := by omega
      go_wp2_with fail
      go_ret
      exact ⟨rfl, CW.out.below (Nat.le_refl _) (fun k hk => by rcases hk with h | h; exact MB.out k h; rw [h]; exact HB9S.out)⟩
end Go.Proofs.Ytaldoajdhbndhaa.Pa

/- The row of the law ReplicaKeeps, out of its walk: for every input that can be read the law returns true, and each argument reads behind the call as it did. -/
namespace Go.Proofs.Ytaldoajdhbndhaa.replicaKeeps
open Go.ChangeShapes Go.WideShapes Go.ChangeAt Go.RowKit
open Go.ChangeMaps (open_string shut_string)
set_option linter.unusedVariables false
theorem own : ownKnob Try.prog.godebug = none := by kernel_rfl
theorem laidOut : laidOutB Try.prog = true := by kernel_rfl
set_option maxRecDepth 100000 in
theorem lifted (os : Os) (started : os.Started) (H : Type) (enc : TypeId × Value → H) :
    ReturnsInHanded {} Try.checked os 10 .any (Rows.replicaKeepsSpec.pre6 enc Try.prog Try.f10 Rows.replicaKeepsRow.domain false) (Rows.replicaKeepsSpec.post enc Try.prog Try.f10 false true false false) := by
  refine returnsInHanded_of_change_sized (C := Try.checked) own started (by kernel_rfl) Try.func10
    (ChangeSpec.witness6 (enc := enc) (C := Try.checked) false ⟨#[], #[.agg #[.int .i64 0, .int .i64 0, .int .i64 0], .agg #[.int .i64 0, .int .i64 0, .int .i64 0, .int .i64 0, .slice none 0 0], .slice none 0 0], []⟩ 8 (by kernel_rfl) (by kernel_rfl) (by kernel_rfl) (by kernel_rfl)) ?_
  intro W base args ds gs before hval0 hW hcnd hsz0 _
  have hval : ∀ (j : Nat) t v, Try.f10.params[j]? = some t → args[j]? = some v → Value.okWide Try.prog W .any base t v := hval0
  have hW' := hW
  obtain ⟨p, q, hA0, hV, rfl, hfz, hnd⟩ := hW
  have hA : DataW.TrodAll enc Try.prog W 0 (fun _ => true) true Try.f10.params.toList args.toList ds p := hA0
  rw [Try.params10] at hA hval
  obtain ⟨v0, vs0, d0, ds0, p0, q0, hargs, rfl, rfl, h0, r0⟩ := trodAll_cons hA
  obtain ⟨v1, vs1, d1, ds1, p1, q1, rfl, rfl, rfl, h1, r1⟩ := trodAll_cons r0
  obtain ⟨v2, vs2, d2, ds2, p2, q2, rfl, rfl, rfl, h2, r2⟩ := trodAll_cons r1
  obtain ⟨rfl, rfl, rfl⟩ := trodAll_nil r2
  obtain rfl : args = #[v0, v1, v2] := by cases args; simp_all
  obtain ⟨rfl, rfl⟩ := trodVars_none hV
  have k0 := h0
  have lt0 : ∀ x ∈ p0, x.block < W.heap.size := by obtain ⟨m, hm⟩ := k0; exact DataW.trod_lt m _ _ _ hm
  obtain ⟨cs0, rfl, _⟩ := okWide_struct Try.underlying23 (hval 0 23 v0 rfl rfl)
  obtain ⟨z0, w0⟩ : ∃ x, Pa.cfgK.K W (fun k => k < W.heap.size) x cs0.toList := by
    obtain ⟨fuel, hf⟩ := h0
    exact Pa.opens_cfg.opens enc W _ _ fuel _ _ hf
  have k1 := h1
  have lt1 : ∀ x ∈ p1, x.block < W.heap.size := by obtain ⟨m, hm⟩ := k1; exact DataW.trod_lt m _ _ _ hm
  obtain ⟨cs1, rfl, _⟩ := okWide_struct Try.underlying26 (hval 1 26 v1 rfl rfl)
  obtain ⟨z1, w1⟩ : ∃ x, Pa.stK.K W (fun k => k < W.heap.size) x cs1.toList := by
    obtain ⟨fuel, hf⟩ := h1
    exact Pa.opens_st.opens enc W _ _ fuel _ _ hf
  have k2 := h2
  have lt2 : ∀ x ∈ p2, x.block < W.heap.size := by obtain ⟨m, hm⟩ := k2; exact DataW.trod_lt m _ _ _ hm
  obtain ⟨a2, len2, cap2, rfl⟩ := okWide_slice Try.underlying46 (hval 2 46 v2 rfl rfl)
  obtain ⟨z2, w2⟩ : ∃ xs, C.Ty.At _ W (fun k => k < W.heap.size) a2 len2 cap2 xs := by
    obtain ⟨fuel, hf⟩ := h2
    obtain ⟨xs, A, n, c, hcs, hx⟩ := Pa.opens_ops.opens enc W _ _ fuel _ _ hf
    simp [Value.cells] at hcs
    obtain ⟨rfl, rfl, rfl⟩ := hcs
    exact ⟨xs, hx⟩
  clear hA0 hval0 hsz0
  refine (Pa.ReplicaKeeps_walk W cs0 z0 w0 cs1 z1 w1 a2 len2 cap2 z2 w2).mono fun e W' ⟨he, bel⟩ => ?_
  subst he
  exact ⟨_, rfl, _, _, _, [], _, [], hW', trodAll_mk1 (shut_bool (Try.underlying4) _), (trodAll_cons_mk (Below.trod laidOut (by kernel_rfl) (of_decide_eq_true (by kernel_rfl)) k0 bel lt0) (trodAll_cons_mk (Below.trod laidOut (by kernel_rfl) (of_decide_eq_true (by kernel_rfl)) k1 bel lt1) (trodAll_cons_mk (Below.trod laidOut (by kernel_rfl) (of_decide_eq_true (by kernel_rfl)) k2 bel lt2) trodAll_mk0))), rfl, bel.frame _, fun h => by cases h⟩
theorem over : Rows.replicaKeepsRow.holds Try.pinned (OpenSpec.ofChange Rows.replicaKeepsSpec) :=
  OpenClaim.holds_of_wide 10 Try.f10 rfl rfl rfl rfl rfl rfl rfl ⟨rfl, rfl, rfl, rfl, rfl⟩ rfl rfl rfl rfl rfl (by kernel_rfl) Try.func10 (by kernel_rfl)
    (of_decide_eq_true (by kernel_rfl)) (by unfold Func.isWrapper; first | (rw [if_pos (by decide +kernel)]; kernel_rfl) | (rw [if_neg (by decide +kernel)]; exact ⟨rfl, rfl⟩))
    (fun os started H enc _ => lifted os started H enc)
end Go.Proofs.Ytaldoajdhbndhaa.replicaKeeps
namespace Go.Proofs.Ytaldoajdhbndhaa
theorem replicaKeeps_holds : Rows.ReplicaKeepsSaid := replicaKeeps.over
#print axioms replicaKeeps_holds
end Go.Proofs.Ytaldoajdhbndhaa
