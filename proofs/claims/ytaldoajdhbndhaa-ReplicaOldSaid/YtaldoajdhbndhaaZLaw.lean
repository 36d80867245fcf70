/- The law with its walk: WReplicaOld, LawReplicaOld. -/
import Derived.Test.YtaldoajdhbndhaaRows
import Derived.Test.YtaldoajdhbndhaaMF
import Derived.Below
import Derived.Deep.Draws
import Derived.Deep.AppendLies
import Derived.Maps.AppendAt
import Derived.OwnWalk
import Derived.Laws.BytesArg
import Derived.Laws.MakeOwn
import Derived.Laws.OwnMore
import Derived.Deep.OwnRows
import Derived.Tactics
import Derived.Lib.ConvBytes
import Derived.Laws.Slices
import Derived.WalkKit
import Derived.KernelRfl
import Derived.RowKit3
import Derived.Deep.LoopGhost
import Derived.Deep.QuietTactic
import Derived.BigQuiet
import Derived.WideLaws
import Derived.Deep.DeepCutAuto
import Derived.Deep.CutBlock
import Derived.Deep.RegionHeld3
import Derived.Deep.RegionLaw
import Derived.StillTailTactics
import Derived.Laws.Rows
import Derived.Lib.AppendStr
import Derived.ArgAppend
import Derived.Laws.IdiomCopy
import Derived.OrdersHeld
import Derived.Laws.BitsLemmas
import Derived.Laws.BitsAllLaws
import Derived.WalkSpells
import Derived.Lib.LazyBuf
import Derived.RowKit
import Derived.ProofKit
import Derived.Deep.Slices
import Derived.IntWalk
import Derived.Shelf.Abstract
import Derived.Laws.StructEq
import Derived.Lib.SlBytesConst
import Derived.WalkMore
import Derived.Deep.WholeRow
import Derived.Maps.Keyed
import Derived.Maps.RangeRun
import Derived.ChangeMaps5
import Derived.Carry
import Derived.OpenShut
import Derived.ShutString
import Derived.ChangeOld
import Derived.SizedLaws

/- The walk of the law ReplicaOld. -/

namespace Go.Proofs.Ytaldoajdhbndhaa.Pa

set_option linter.unusedVariables false

set_option linter.unusedSimpArgs false

open Go.RowKit Go.Proofs.Ytaldoajdhbndhaa.C

attribute [local go_sem] max2_int min2_int max_two min_two

theorem old_none {r : Rp} {m : Msg} (h : m.view < r.s.view) : (deliverR r m).1 = r ∧ ((deliverR r m).2 = 0 ∨ (deliverR r m).2 = 10) := by
  unfold deliverR
  rw [if_pos h]
  split
  · exact ⟨rfl, .inr rfl⟩
  · exact ⟨rfl, .inl rfl⟩
set_option maxHeartbeats 4000000 in
set_option maxRecDepth 100000 in
theorem ReplicaOld_walk (w : World) (ca : Array Value) (x : Int × Int × Int) (hx : cfgK.K w (fun k => k < w.heap.size) x ca.toList) (cs : Array Value) (s : St) (hs : stK.K w (fun k => k < w.heap.size) s cs.toList) (L : Option Addr) (ln lc : Nat) (l : List Msg) (hl : Ty.At msgK w (fun k => k < w.heap.size) L ln lc l) :
    Calls Try.prog 3 #[.agg ca, .agg cs, .slice L ln lc] w fun e w' => e = .returned (.bool true) ∧ Below w.heap.size w w' := by
  obtain ⟨rfl, hnw⟩ := cfg_open hx
  obtain ⟨A, n, c, rfl, hlg, hsw⟩ := st_open hs
  have HNW := hid hnw
  obtain ⟨bs, hbs⟩ : ∃ q_, q_ = w.heap.size + 1 := ⟨_, rfl⟩
  obtain ⟨w1, hw1⟩ : ∃ q_, q_ = ((w.alloc (.cells #[.int .i64 x.1, .int .i64 x.2.1, .int .i64 x.2.2] 23)).alloc (.cells #[.int .i64 s.view, .int .i64 s.normal, .int .i64 s.commit, .int .i64 s.active, .slice A n c] 26)) := ⟨_, rfl⟩
  have C1 := hid (show Chg (fun _ => False) w w1 by rw [hw1]; exact ((Chg.refl _ w).alloc _).alloc _)
  have BC := hid (show w1.heap[w.heap.size]? = some (.cells #[.int .i64 x.1, .int .i64 x.2.1, .int .i64 x.2.2] 23 (0, 0)) by
    rw [hw1]
    refine blk_alloc ?_ _
    have := blk_new w (.cells #[.int .i64 x.1, .int .i64 x.2.1, .int .i64 x.2.2] 23)
    simpa using this)
  have BS := hid (show w1.heap[bs]? = some (.cells #[.int .i64 s.view, .int .i64 s.normal, .int .i64 s.commit, .int .i64 s.active, .slice A n c] 26 (0, 0)) by
    rw [hw1, hbs]
    have := blk_new (w.alloc (.cells #[.int .i64 x.1, .int .i64 x.2.1, .int .i64 x.2.2] 23)) (.cells #[.int .i64 s.view, .int .i64 s.normal, .int .i64 s.commit, .int .i64 s.active, .slice A n c] 26)
    simpa using this)
  have ne01 : w.heap.size ≠ bs := by omega
  have ne10 : bs ≠ w.heap.size := by omega
  have Hbs := hid hbs
  have ltbs : w.heap.size < bs := by omega
  have SZ := hid (show w1.heap.size = w.heap.size + 2 by rw [hw1]; simp)
  have HL := hid (hlg.chg C1.out (fun _ _ h => h))
  have HLL := hid hl
  have LN := hid hl.1
  have SZ1 := hid SZ.out
  clear hx hs hlg hl hsw hnw
  go_enter Try.func3, Try.ntmps3
  go_wp2_with fail
  rw [← hbs, ← hw1]
  clear hw1 hbs
  refine (anchor15_any w1).mono ?_
  rintro e w2 ⟨rfl, k2⟩
  have CC := hid (C1.out.trans k2 (fun _ h _ => h))
  replace BC := hid (k2.blk BC.out (fun h => h))
  replace BS := hid (k2.blk BS.out (fun h => h))
  replace HL := hid (HL.out.chg k2 (fun _ _ h => h))
  clear k2
  by_cases h20 : (20 : Int) < (ln : Int)
  · go_wp2_with fail
    go_ret
    exact ⟨rfl, CC.out.below (Nat.le_refl _) (fun _ h => h.elim)⟩
  have H20 := hid (show ln ≤ 20 by omega)
  have h20b : decide ((20 : Int) < (ln : Int)) = false := decide_eq_false h20
  have S_0 : w2.cell? ⟨bs, 0, none⟩ = some (.int .i64 s.view) := (cellAt BS.out 0).trans rfl
  have S_1 : w2.cell? ⟨bs, 1, none⟩ = some (.int .i64 s.normal) := (cellAt BS.out 1).trans rfl
  have S_2 : w2.cell? ⟨bs, 2, none⟩ = some (.int .i64 s.commit) := (cellAt BS.out 2).trans rfl
  have S_3 : w2.cell? ⟨bs, 3, none⟩ = some (.int .i64 s.active) := (cellAt BS.out 3).trans rfl
  have S_4 : w2.cell? ⟨bs, 4, none⟩ = some (.slice A n c) := (cellAt BS.out 4).trans rfl
  go_wp2_with fail
  clear S_0 S_1 S_2 S_3 S_4
  refine (smallstate_any HL.out).mono ?_
  rintro e w3 ⟨rfl, k3⟩
  replace CC := hid (CC.out.trans k3 (fun _ h _ => h))
  replace BC := hid (k3.blk BC.out (fun h => h))
  replace BS := hid (k3.blk BS.out (fun h => h))
  replace HL := hid (HL.out.chg k3 (fun _ _ h => h))
  clear k3
  cases hsm : smallR s.log
  · go_wp2_with fail
    go_ret
    exact ⟨rfl, CC.out.below (Nat.le_refl _) (fun _ h => h.elim)⟩
  have HN7 := hid (show n ≤ 1000000 by have h1 := HL.out.1; have h2 := smallR_len hsm; omega)
  have HPUT := hid (smallR_put hsm)
  have HC0 := hid (lt_of_blk BC.out)
  have HC1 := hid (lt_of_blk BS.out)
  clear hsm
  have C_0 : w3.cell? ⟨w.heap.size, 0, none⟩ = some (.int .i64 x.1) := (cellAt BC.out 0).trans rfl
  have C_1 : w3.cell? ⟨w.heap.size, 1, none⟩ = some (.int .i64 x.2.1) := (cellAt BC.out 1).trans rfl
  have C_2 : w3.cell? ⟨w.heap.size, 2, none⟩ = some (.int .i64 x.2.2) := (cellAt BC.out 2).trans rfl
  have S_0 : w3.cell? ⟨bs, 0, none⟩ = some (.int .i64 s.view) := (cellAt BS.out 0).trans rfl
  have S_1 : w3.cell? ⟨bs, 1, none⟩ = some (.int .i64 s.normal) := (cellAt BS.out 1).trans rfl
  have S_2 : w3.cell? ⟨bs, 2, none⟩ = some (.int .i64 s.commit) := (cellAt BS.out 2).trans rfl
  have S_3 : w3.cell? ⟨bs, 3, none⟩ = some (.int .i64 s.active) := (cellAt BS.out 3).trans rfl
  have S_4 : w3.cell? ⟨bs, 4, none⟩ = some (.slice A n c) := (cellAt BS.out 4).trans rfl
  go_wp2_with fail
  clear C_0 C_1 C_2 S_0 S_1 S_2 S_3 S_4
  refine (rnew_any (R := fun k => k < w.heap.size) HL.out HN7.out HNW.out).mono ?_
  rintro e wn (⟨_, rfl, hc⟩ | ⟨hcf, hst, p, b1, b2, b3, A9, n9, c9, rfl, hM, hR, hc⟩)
  · have CN := hid (CC.out.trans hc (fun _ h _ => h))
    clear hc
    go_wp2_with fail
    go_ret
    exact ⟨rfl, CN.out.below (Nat.le_refl _) (fun _ h => h.elim)⟩
  have HM4 := hid (show ∀ k, M4 p b1 b2 b3 k → w3.heap.size ≤ k from fun k hk => (hM k hk).1)
  have HSZ := hid (show w.heap.size ≤ w3.heap.size from CC.out.size)
  have Q := hid (show RQ wn p b1 b2 b3 (M4 p b1 b2 b3) (newR x.1 x.2.1 x.2.2 s) from (RQ.mk (RpOk.new hcf hst) rfl ⟨A9, n9, c9, hR⟩).less (fun k hk => hk) (fun k hk => .inl hk))
  have KK := hid (show Chg (M4 p b1 b2 b3) w wn from (CC.out.trans hc (fun _ h _ => h)).mono (fun _ h _ => h.elim))
  have HFIN := hid (show ∀ w', Chg (M4 p b1 b2 b3) w w' → Below w.heap.size w w' from fun w' h => h.below (Nat.le_refl _) (fun k hk => Nat.le_trans HSZ.out (HM4.out k hk)))
  have HCF := hid hcf
  have HST := hid hst
  have MB := hid (show ∀ k, M4 p b1 b2 b3 k → w.heap.size ≤ k from fun k hk => Nat.le_trans HSZ.out (HM4.out k hk))
  replace BC := hid (hc.blk BC.out (fun h => h))
  replace BS := hid (hc.blk BS.out (fun h => h))
  have HBC := hid (show ¬ M4 p b1 b2 b3 w.heap.size from fun e => by have h1 := HM4.out _ e; have h2 := lt_of_blk BC.out; have h3 := HC0.out; omega)
  have HBS := hid (show ¬ M4 p b1 b2 b3 bs from fun e => by have h1 := HM4.out _ e; have h3 := HC1.out; omega)
  clear hcf hst hM hR hc
  go_wp2_with fail
  refine (rq_state Q.out).mono ?_
  rintro e w4 ⟨A4, c4, rfl, hat, k4⟩
  have HAT := hid hat
  replace KK := hid (KK.out.trans k4 (fun _ h _ => h.elim))
  replace Q := hid (Q.out.far k4)
  replace BC := hid (k4.blk BC.out (fun h => h))
  replace BS := hid (k4.blk BS.out (fun h => h))
  clear hat k4
  go_wp2_with fail
  refine (madestate_any (s := s) HAT.out (by have h1 := (stR_iff.1 HST.out).1; show s.log.length ≤ 1000000; omega) (fun e he => (fits_right (stR_iff.1 HST.out).2 e he).1)).mono ?_
  rintro e w5 ⟨A5, c5, rfl, hat, k5⟩
  replace KK := hid (KK.out.trans k5 (fun _ h _ => h.elim))
  replace Q := hid (Q.out.far k5)
  replace BC := hid (k5.blk BC.out (fun h => h))
  replace BS := hid (k5.blk BS.out (fun h => h))
  clear hat k5
  go_wp2_with fail
  refine (rq_role Q.out).mono ?_
  rintro e w6 ⟨rfl, k6⟩
  replace KK := hid (KK.out.trans k6 (fun _ h _ => h.elim))
  replace Q := hid (Q.out.far k6)
  replace BC := hid (k6.blk BC.out (fun h => h))
  replace BS := hid (k6.blk BS.out (fun h => h))
  clear k6
  obtain ⟨r0, hr0⟩ : ∃ q_, q_ = newR x.1 x.2.1 x.2.2 s := ⟨_, rfl⟩
  have HR0 := hid (show r0.s = s by rw [hr0]; rfl)
  have HRL := hid (show r0.s.log.length = s.log.length by rw [HR0.out])
  rw [← hr0] at Q ⊢
  clear hr0
  obtain ⟨b9, hb9⟩ : ∃ q_, q_ = w6.heap.size := ⟨_, rfl⟩
  obtain ⟨w7, hw7⟩ : ∃ q_, q_ = w6.alloc (.cells #[.int .i64 s.view, .int .i64 s.normal, .int .i64 s.commit, .int .i64 s.active, .slice A5 s.log.length c5] 36) := ⟨_, rfl⟩
  have C7 := hid (show Chg (fun _ => False) w6 w7 by rw [hw7]; exact (Chg.refl _ w6).alloc _)
  have B9 := hid (show w7.heap[b9]? = some (.cells #[.int .i64 s.view, .int .i64 s.normal, .int .i64 s.commit, .int .i64 s.active, .slice A5 s.log.length c5] 36 (0, 0)) by rw [hw7, hb9]; exact blk_new w6 _)
  have HB9 := hid (show ¬ M4 p b1 b2 b3 b9 from fun e => by have := Q.out.lt b9 e; omega)
  go_wp2_with fail
  rw [← hw7, ← hb9]
  clear hw7 hb9
  replace KK := hid (KK.out.trans C7.out (fun _ h _ => h.elim))
  replace Q := hid (Q.out.far C7.out)
  replace BS := hid (C7.out.blk BS.out (fun h => h))
  go_loopw [43] (fun i wr => ∃ q : Nat, q ≤ ln ∧ i = .int .i64 q ∧ RQ wr p b1 b2 b3 (M4 p b1 b2 b3) r0 ∧ Chg (M4 p b1 b2 b3) w7 wr) (fun i _ => ln - (intOf i).toNat)
  case atStart => exact ⟨0, Nat.zero_le _, rfl, Q.out, Chg.refl _ _⟩
  case round =>
    obtain ⟨q, hq, rfl, hQ, hC⟩ := hrel
    have QQ := hid hQ
    have HC := hid hC
    clear hQ hC
    have CW := hid (show Chg (M4 p b1 b2 b3) w wr from KK.out.trans HC.out (fun _ h _ => h))
    by_cases hlt : q < ln
    · have hlt2 : (q : Int) < (ln : Int) := by omega
      obtain ⟨m, hm⟩ : ∃ m, l[q]? = some m := ⟨_, List.getElem?_eq_getElem (by have := LN.out; omega)⟩
      obtain ⟨a, cs, ha, haR, hK, hcs⟩ := (HLL.out.chg CW.out (fun k hk e => by have h1 : k < w.heap.size := hk; have := MB.out k e; omega)).get (by decide) hm
      have hK' : msgK.K wr (fun k => k < w.heap.size) m cs.toArray.toList := by rw [List.toList_toArray]; exact hK
      obtain ⟨B, k, d, e2, hml⟩ := msg_open hK'
      have e3 := congrArg Array.toList e2
      rw [List.toList_toArray] at e3
      subst e3
      subst ha
      have hcs2 : ∀ j u, ([.int .i64 m.kind, .int .i64 m.view, .int .i64 m.src, .int .i64 m.dst, .int .i64 m.op, .int .i64 m.commit, .int .i64 m.normal, .slice B k d] : List Value)[j]? = some u → wr.cell? (a.add (q * 8 + j)) = some u := fun j u hj => hcs j u hj
      have x0 := elem_cell0 hcs2 _ rfl
      have x1 := elem_cell hcs2 0 _ rfl
      have x2 := elem_cell hcs2 1 _ rfl
      have x3 := elem_cell hcs2 2 _ rfl
      have x4 := elem_cell hcs2 3 _ rfl
      have x5 := elem_cell hcs2 4 _ rfl
      have x6 := elem_cell hcs2 5 _ rfl
      have x7 := elem_cell hcs2 6 _ rfl
      have HML := hid hml
      have BSr := hid (HC.out.blk BS.out HBS.out)
      obtain ⟨W1, hW1⟩ : ∃ W1, W1 = wr.alloc (.cells #[.int .i64 m.kind, .int .i64 m.view, .int .i64 m.src, .int .i64 m.dst, .int .i64 m.op, .int .i64 m.commit, .int .i64 m.normal, .slice B k d] 41) := ⟨_, rfl⟩
      have CW1 := hid (show Chg (fun _ => False) wr W1 by rw [hW1]; exact (Chg.refl _ wr).alloc _)
      have BW1 := hid (show W1.heap[wr.heap.size]? = some (.cells #[.int .i64 m.kind, .int .i64 m.view, .int .i64 m.src, .int .i64 m.dst, .int .i64 m.op, .int .i64 m.commit, .int .i64 m.normal, .slice B k d] 41 (0, 0)) by rw [hW1]; exact blk_new wr _)
      clear hcs hK hK' hcs2 hm haR e2 hml
      go_wp2_with fail
      rw [← hW1]
      clear hW1 x0 x1 x2 x3 x4 x5 x6 x7
      refine (small_any (HML.out.chg CW1.out (fun _ _ h => h))).mono ?_
      rintro e w9 ⟨rfl, k9⟩
      have K9 := hid (CW1.out.trans k9 (fun _ h _ => h))
      have B9' := hid (k9.blk BW1.out (fun h => h))
      have BS9 := hid (k9.blk (CW1.out.blk BSr.out (fun h => h)) (fun h => h))
      clear k9
      cases hsm : smallR m.log
      · clear hsm
        go_wp2_with fail
        go_roundw
        case measure => simp [intOf]; omega
        case rel => first | exact ⟨q + 1, hlt, by go_num, QQ.out.far K9.out, HC.out.trans K9.out (fun _ h _ => h.elim)⟩ | ((repeat apply Exists.intro); exact ⟨⟨q + 1, hlt, by go_num, QQ.out.far K9.out, HC.out.trans K9.out (fun _ h _ => h.elim)⟩, rfl⟩)
      clear hsm
      have y1 : w9.cell? ⟨wr.heap.size, 1, none⟩ = some (.int .i64 m.view) := (cellAt B9'.out 1).trans rfl
      have S_0 : w9.cell? ⟨bs, 0, none⟩ = some (.int .i64 s.view) := (cellAt BS9.out 0).trans rfl
      by_cases hvw : s.view ≤ m.view
      · go_wp2_with fail
        go_roundw
        case measure => simp [intOf]; omega
        case rel => first | exact ⟨q + 1, hlt, by go_num, QQ.out.far K9.out, HC.out.trans K9.out (fun _ h _ => h.elim)⟩ | ((repeat apply Exists.intro); exact ⟨⟨q + 1, hlt, by go_num, QQ.out.far K9.out, HC.out.trans K9.out (fun _ h _ => h.elim)⟩, rfl⟩)
      have hvw2 : m.view < s.view := by omega
      have HON := hid (old_none (r := r0) (m := m) (by rw [HR0.out]; exact hvw2))
      have y0 : w9.cell? ⟨wr.heap.size, 0, none⟩ = some (.int .i64 m.kind) := (cellAt B9'.out 0).trans rfl
      have y2 : w9.cell? ⟨wr.heap.size, 2, none⟩ = some (.int .i64 m.src) := (cellAt B9'.out 2).trans rfl
      have y3 : w9.cell? ⟨wr.heap.size, 3, none⟩ = some (.int .i64 m.dst) := (cellAt B9'.out 3).trans rfl
      have y4 : w9.cell? ⟨wr.heap.size, 4, none⟩ = some (.int .i64 m.op) := (cellAt B9'.out 4).trans rfl
      have y5 : w9.cell? ⟨wr.heap.size, 5, none⟩ = some (.int .i64 m.commit) := (cellAt B9'.out 5).trans rfl
      have y6 : w9.cell? ⟨wr.heap.size, 6, none⟩ = some (.int .i64 m.normal) := (cellAt B9'.out 6).trans rfl
      have y7 : w9.cell? ⟨wr.heap.size, 7, none⟩ = some (.slice B k d) := (cellAt B9'.out 7).trans rfl
      go_wp2_with fail
      clear y0 y1 y2 y3 y4 y5 y6 y7 S_0 hvw hvw2
      refine (rq_deliver (QQ.out.far K9.out) (HML.out.chg K9.out (fun _ _ h => h)) (fun j hj _ e => by have h1 : j < w.heap.size := hj; have h2 := MB.out j e; omega)).mono ?_
      rintro e w10 ⟨A10, c10, rfl, hq10, _, k10⟩
      rw [HON.out.1] at hq10 ⊢
      rw [show r0.out.length = 0 by rw [QQ.out.out]; rfl]
      have Q10 := hid (show RQ w10 p b1 b2 b3 (M4 p b1 b2 b3) r0 by rw [out_nil QQ.out.out] at hq10; exact hq10)
      have K10 := hid (show Chg (M4 p b1 b2 b3) w7 w10 from (HC.out.trans K9.out (fun _ h _ => h.elim)).trans k10 (fun _ h _ => h))
      clear hq10 k10
      rcases HON.out.2 with he | he
      · rw [he]
        clear he
        go_wp2_with fail
        go_roundw
        case measure => simp [intOf]; omega
        case rel => first | exact ⟨q + 1, hlt, by go_num, Q10.out, K10.out⟩ | ((repeat apply Exists.intro); exact ⟨⟨q + 1, hlt, by go_num, Q10.out, K10.out⟩, rfl⟩)
      · rw [he]
        clear he
        go_wp2_with fail
        go_roundw
        case measure => simp [intOf]; omega
        case rel => first | exact ⟨q + 1, hlt, by go_num, Q10.out, K10.out⟩ | ((repeat apply Exists.intro); exact ⟨⟨q + 1, hlt, by go_num, Q10.out, K10.out⟩, rfl⟩)
    · have hqn : ¬ (q : Int) < (ln : Int) := by omega
      have B9r := hid (HC.out.blk B9.out HB9.out)
      go_wp2_with fail
      refine (rq_state QQ.out).mono ?_
      rintro e w9 ⟨A9', c9', rfl, hat, k9⟩
      rw [HR0.out]
      have K9 := hid (CW.out.trans k9 (fun _ h _ => h.elim))
      have Q9 := hid (QQ.out.far k9)
      have B99 := hid (k9.blk B9r.out (fun h => h))
      have hlen : (s.log.length : Int) ≤ 64 := by have := (stR_iff.1 HST.out).1; omega
      obtain ⟨sn, hsn⟩ : ∃ q_, q_ = s.log.length := ⟨_, rfl⟩
      rw [← hsn] at B99 hlen ⊢
      clear hat k9 hsn
      obtain ⟨bf, hbf⟩ : ∃ q_, q_ = w9.heap.size := ⟨_, rfl⟩
      obtain ⟨wf, hwf⟩ : ∃ q_, q_ = w9.alloc (.cells #[.int .i64 s.view, .int .i64 s.normal, .int .i64 s.commit, .int .i64 s.active, .slice A9' sn c9'] 26) := ⟨_, rfl⟩
      have CF := hid (show Chg (fun _ => False) w9 wf by rw [hwf]; exact (Chg.refl _ w9).alloc _)
      have BF := hid (show wf.heap[bf]? = some (.cells #[.int .i64 s.view, .int .i64 s.normal, .int .i64 s.commit, .int .i64 s.active, .slice A9' sn c9'] 26 (0, 0)) by rw [hwf, hbf]; exact blk_new w9 _)
      go_wp2_with fail
      rw [← hwf, ← hbf]
      clear hwf hbf
      refine (rq_role (Q9.out.far CF.out)).mono ?_
      rintro e w10 ⟨rfl, k10⟩
      have K10 := hid (show Chg (M4 p b1 b2 b3) w w10 from (K9.out.trans CF.out (fun _ h _ => h.elim)).trans k10 (fun _ h _ => h.elim))
      have BF2 := hid (k10.blk BF.out (fun h => h))
      have B92 := hid (k10.blk (CF.out.blk B99.out (fun h => h)) (fun h => h))
      clear k10
      have z0 : w10.cell? ⟨bf, 0, none⟩ = some (.int .i64 s.view) := (cellAt BF2.out 0).trans rfl
      have z2 : w10.cell? ⟨bf, 2, none⟩ = some (.int .i64 s.commit) := (cellAt BF2.out 2).trans rfl
      have z4 : w10.cell? ⟨bf, 4, none⟩ = some (.slice A9' sn c9') := (cellAt BF2.out 4).trans rfl
      have v0 : w10.cell? ⟨b9, 0, none⟩ = some (.int .i64 s.view) := (cellAt B92.out 0).trans rfl
      have v2 : w10.cell? ⟨b9, 2, none⟩ = some (.int .i64 s.commit) := (cellAt B92.out 2).trans rfl
      have v4 : w10.cell? ⟨b9, 4, none⟩ = some (.slice A5 sn c5) := (cellAt B92.out 4).trans rfl
      go_wp2_with fail
      go_ret
      exact ⟨rfl, HFIN.out _ K10.out⟩
end Go.Proofs.Ytaldoajdhbndhaa.Pa

/- The row of the law ReplicaOld, out of its walk: for every input that can be read the law returns true, and each argument reads behind the call as it did. -/
namespace Go.Proofs.Ytaldoajdhbndhaa.replicaOld
open Go.ChangeShapes Go.WideShapes Go.ChangeAt Go.RowKit
open Go.ChangeMaps (open_string shut_string)
set_option linter.unusedVariables false
theorem own : ownKnob Try.prog.godebug = none := by kernel_rfl
theorem laidOut : laidOutB Try.prog = true := by kernel_rfl
set_option maxRecDepth 100000 in
theorem lifted (os : Os) (started : os.Started) (H : Type) (enc : TypeId × Value → H) :
    ReturnsInHanded {} Try.checked os 3 .any (Rows.replicaOldSpec.pre6 enc Try.prog Try.f3 Rows.replicaOldRow.domain false) (Rows.replicaOldSpec.post enc Try.prog Try.f3 false true false false) := by
  refine returnsInHanded_of_change_sized (C := Try.checked) own started (by kernel_rfl) Try.func3
    (ChangeSpec.witness6 (enc := enc) (C := Try.checked) false ⟨#[], #[.agg #[.int .i64 0, .int .i64 0, .int .i64 0], .agg #[.int .i64 0, .int .i64 0, .int .i64 0, .int .i64 0, .slice none 0 0], .slice none 0 0], []⟩ 8 (by kernel_rfl) (by kernel_rfl) (by kernel_rfl) (by kernel_rfl)) ?_
  intro W base args ds gs before hval0 hW hcnd hsz0 _
  have hval : ∀ (j : Nat) t v, Try.f3.params[j]? = some t → args[j]? = some v → Value.okWide Try.prog W .any base t v := hval0
  have hW' := hW
  obtain ⟨p, q, hA0, hV, rfl, hfz, hnd⟩ := hW
  have hA : DataW.TrodAll enc Try.prog W 0 (fun _ => true) true Try.f3.params.toList args.toList ds p := hA0
  rw [Try.params3] at hA hval
  obtain ⟨v0, vs0, d0, ds0, p0, q0, hargs, rfl, rfl, h0, r0⟩ := trodAll_cons hA
  obtain ⟨v1, vs1, d1, ds1, p1, q1, rfl, rfl, rfl, h1, r1⟩ := trodAll_cons r0
  obtain ⟨v2, vs2, d2, ds2, p2, q2, rfl, rfl, rfl, h2, r2⟩ := trodAll_cons r1
  obtain ⟨rfl, rfl, rfl⟩ := trodAll_nil r2
  obtain rfl : args = #[v0, v1, v2] := by cases args; simp_all
  obtain ⟨rfl, rfl⟩ := trodVars_none hV
  have k0 := h0
  have lt0 : ∀ x ∈ p0, x.block < W.heap.size := by obtain ⟨m, hm⟩ := k0; exact DataW.trod_lt m _ _ _ hm
  obtain ⟨cs0, rfl, _⟩ := okWide_struct Try.underlying23 (hval 0 23 v0 rfl rfl)
  obtain ⟨z0, w0⟩ : ∃ x, Pa.cfgK.K W (fun k => k < W.heap.size) x cs0.toList := by
    obtain ⟨fuel, hf⟩ := h0
    exact Pa.opens_cfg.opens enc W _ _ fuel _ _ hf
  have k1 := h1
  have lt1 : ∀ x ∈ p1, x.block < W.heap.size := by obtain ⟨m, hm⟩ := k1; exact DataW.trod_lt m _ _ _ hm
  obtain ⟨cs1, rfl, _⟩ := okWide_struct Try.underlying26 (hval 1 26 v1 rfl rfl)
  obtain ⟨z1, w1⟩ : ∃ x, Pa.stK.K W (fun k => k < W.heap.size) x cs1.toList := by
    obtain ⟨fuel, hf⟩ := h1
    exact Pa.opens_st.opens enc W _ _ fuel _ _ hf
  have k2 := h2
  have lt2 : ∀ x ∈ p2, x.block < W.heap.size := by obtain ⟨m, hm⟩ := k2; exact DataW.trod_lt m _ _ _ hm
  obtain ⟨a2, len2, cap2, rfl⟩ := okWide_slice Try.underlying27 (hval 2 27 v2 rfl rfl)
  obtain ⟨z2, w2⟩ : ∃ xs, C.Ty.At _ W (fun k => k < W.heap.size) a2 len2 cap2 xs := by
    obtain ⟨fuel, hf⟩ := h2
    obtain ⟨xs, A, n, c, hcs, hx⟩ := Pa.opens_msgs.opens enc W _ _ fuel _ _ hf
    simp [Value.cells] at hcs
    obtain ⟨rfl, rfl, rfl⟩ := hcs
    exact ⟨xs, hx⟩
  clear hA0 hval0 hsz0
  refine (Pa.ReplicaOld_walk W cs0 z0 w0 cs1 z1 w1 a2 len2 cap2 z2 w2).mono fun e W' ⟨he, bel⟩ => ?_
  subst he
  exact ⟨_, rfl, _, _, _, [], _, [], hW', trodAll_mk1 (shut_bool (Try.underlying4) _), (trodAll_cons_mk (Below.trod laidOut (by kernel_rfl) (of_decide_eq_true (by kernel_rfl)) k0 bel lt0) (trodAll_cons_mk (Below.trod laidOut (by kernel_rfl) (of_decide_eq_true (by kernel_rfl)) k1 bel lt1) (trodAll_cons_mk (Below.trod laidOut (by kernel_rfl) (of_decide_eq_true (by kernel_rfl)) k2 bel lt2) trodAll_mk0))), rfl, bel.frame _, fun h => by cases h⟩
theorem over : Rows.replicaOldRow.holds Try.pinned (OpenSpec.ofChange Rows.replicaOldSpec) :=
  OpenClaim.holds_of_wide 3 Try.f3 rfl rfl rfl rfl rfl rfl rfl ⟨rfl, rfl, rfl, rfl, rfl⟩ rfl rfl rfl rfl rfl (by kernel_rfl) Try.func3 (by kernel_rfl)
    (of_decide_eq_true (by kernel_rfl)) (by unfold Func.isWrapper; first | (rw [if_pos (by decide +kernel)]; kernel_rfl) | (rw [if_neg (by decide +kernel)]; exact ⟨rfl, rfl⟩))
    (fun os started H enc _ => lifted os started H enc)
end Go.Proofs.Ytaldoajdhbndhaa.replicaOld
namespace Go.Proofs.Ytaldoajdhbndhaa
theorem replicaOld_holds : Rows.ReplicaOldSaid := replicaOld.over
#print axioms replicaOld_holds
end Go.Proofs.Ytaldoajdhbndhaa
