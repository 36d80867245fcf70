/- The law with its walk: WReplicaTwice, LawReplicaTwice. -/
import Derived.Test.YtaldoajdhbndhaaRows
import Derived.Test.YtaldoajdhbndhaaMG
import Derived.Below
import Derived.Deep.Draws
import Derived.Deep.AppendLies
import Derived.Maps.AppendAt
import Derived.OwnWalk
import Derived.Laws.BytesArg
import Derived.Laws.MakeOwn
import Derived.Laws.OwnMore
import Derived.Deep.OwnRows
import Derived.Tactics
import Derived.Lib.ConvBytes
import Derived.Laws.Slices
import Derived.WalkKit
import Derived.KernelRfl
import Derived.RowKit3
import Derived.Deep.LoopGhost
import Derived.Deep.QuietTactic
import Derived.BigQuiet
import Derived.WideLaws
import Derived.Deep.DeepCutAuto
import Derived.Deep.CutBlock
import Derived.Deep.RegionHeld3
import Derived.Deep.RegionLaw
import Derived.StillTailTactics
import Derived.Laws.Rows
import Derived.Lib.AppendStr
import Derived.ArgAppend
import Derived.Laws.IdiomCopy
import Derived.OrdersHeld
import Derived.Laws.BitsLemmas
import Derived.Laws.BitsAllLaws
import Derived.WalkSpells
import Derived.Lib.LazyBuf
import Derived.RowKit
import Derived.ProofKit
import Derived.Deep.Slices
import Derived.IntWalk
import Derived.Shelf.Abstract
import Derived.Laws.StructEq
import Derived.Lib.SlBytesConst
import Derived.WalkMore
import Derived.Deep.WholeRow
import Derived.Maps.Keyed
import Derived.Maps.RangeRun
import Derived.ChangeMaps5
import Derived.Carry
import Derived.Deep.Upon
import Derived.OpenShut
import Derived.ShutString
import Derived.ChangeOld
import Derived.SizedLaws

/- The walk of the law ReplicaTwice. -/

namespace Go.Proofs.Ytaldoajdhbndhaa.Pa

set_option linter.unusedVariables false

set_option linter.unusedSimpArgs false

open Go.RowKit Go.Proofs.Ytaldoajdhbndhaa.C

attribute [local go_sem] max2_int min2_int max_two min_two

set_option maxHeartbeats 4000000 in
set_option maxRecDepth 100000 in
theorem ReplicaTwice_walk (w : World) (ca : Array Value) (x : Int × Int × Int) (hx : cfgK.K w (fun k => k < w.heap.size) x ca.toList) (cs : Array Value) (s : St) (hs : stK.K w (fun k => k < w.heap.size) s cs.toList) (L : Option Addr) (ln lc : Nat) (l : List OpR) (hl : Ty.At opK w (fun k => k < w.heap.size) L ln lc l) (hlb : ln * 192 ≤ 140737488351232) (cm : Array Value) (m : Msg) (hm : msgK.K w (fun k => k < w.heap.size) m cm.toList) :
    Calls Try.prog 9 #[.agg ca, .agg cs, .slice L ln lc, .agg cm] w fun e w' => e = .returned (.bool true) ∧ Below w.heap.size w w' := by
  obtain ⟨rfl, hnw⟩ := cfg_open hx
  obtain ⟨A, n, c, rfl, hlg, hsw⟩ := st_open hs
  have HNW := hid hnw
  obtain ⟨B, k, d, rfl, hml⟩ := msg_open hm
  obtain ⟨bs, hbs⟩ : ∃ q_, q_ = w.heap.size + 1 := ⟨_, rfl⟩
  obtain ⟨bm, hbm⟩ : ∃ q_, q_ = w.heap.size + 1 + 1 := ⟨_, rfl⟩
  obtain ⟨w1, hw1⟩ : ∃ q_, q_ = (((w.alloc (.cells #[.int .i64 x.1, .int .i64 x.2.1, .int .i64 x.2.2] 23)).alloc (.cells #[.int .i64 s.view, .int .i64 s.normal, .int .i64 s.commit, .int .i64 s.active, .slice A n c] 26)).alloc (.cells #[.int .i64 m.kind, .int .i64 m.view, .int .i64 m.src, .int .i64 m.dst, .int .i64 m.op, .int .i64 m.commit, .int .i64 m.normal, .slice B k d] 41)) := ⟨_, rfl⟩
  have C1 := hid (show Chg (fun _ => False) w w1 by rw [hw1]; exact (((Chg.refl _ w).alloc _).alloc _).alloc _)
  have BC := hid (show w1.heap[w.heap.size]? = some (.cells #[.int .i64 x.1, .int .i64 x.2.1, .int .i64 x.2.2] 23 (0, 0)) by
    rw [hw1]
    refine blk_alloc (blk_alloc ?_ _) _
    have := blk_new w (.cells #[.int .i64 x.1, .int .i64 x.2.1, .int .i64 x.2.2] 23)
    simpa using this)
  have BS := hid (show w1.heap[bs]? = some (.cells #[.int .i64 s.view, .int .i64 s.normal, .int .i64 s.commit, .int .i64 s.active, .slice A n c] 26 (0, 0)) by
    rw [hw1, hbs]
    refine blk_alloc ?_ _
    have := blk_new (w.alloc (.cells #[.int .i64 x.1, .int .i64 x.2.1, .int .i64 x.2.2] 23)) (.cells #[.int .i64 s.view, .int .i64 s.normal, .int .i64 s.commit, .int .i64 s.active, .slice A n c] 26)
    simpa using this)
  have BM := hid (show w1.heap[bm]? = some (.cells #[.int .i64 m.kind, .int .i64 m.view, .int .i64 m.src, .int .i64 m.dst, .int .i64 m.op, .int .i64 m.commit, .int .i64 m.normal, .slice B k d] 41 (0, 0)) by
    rw [hw1, hbm]
    have := blk_new ((w.alloc (.cells #[.int .i64 x.1, .int .i64 x.2.1, .int .i64 x.2.2] 23)).alloc (.cells #[.int .i64 s.view, .int .i64 s.normal, .int .i64 s.commit, .int .i64 s.active, .slice A n c] 26)) (.cells #[.int .i64 m.kind, .int .i64 m.view, .int .i64 m.src, .int .i64 m.dst, .int .i64 m.op, .int .i64 m.commit, .int .i64 m.normal, .slice B k d] 41)
    simpa using this)
  have ne01 : w.heap.size ≠ bs := by omega
  have ne10 : bs ≠ w.heap.size := by omega
  have ne02 : w.heap.size ≠ bm := by omega
  have ne20 : bm ≠ w.heap.size := by omega
  have ne12 : bs ≠ bm := by omega
  have ne21 : bm ≠ bs := by omega
  have Hbs := hid hbs
  have ltbs : w.heap.size < bs := by omega
  have Hbm := hid hbm
  have ltbm : w.heap.size < bm := by omega
  have SZ := hid (show w1.heap.size = w.heap.size + 3 by rw [hw1]; simp)
  have HL := hid (hlg.chg C1.out (fun _ _ h => h))
  have HLL := hid hl
  have HML := hid hml
  have HMK := hid hm
  have LN := hid hl.1
  have HLB := hid hlb
  have hlnb : (ln : Int) ≤ 9223372036854775807 := by have q1 := hl.2.1; have q2 := hl.2.2.1; simp [maxLen] at q2; omega
  clear hx hs hlg hl hsw hnw hm hml hlb
  go_enter Try.func9, Try.ntmps9
  go_wp2_with fail
  rw [← hbm, ← hbs, ← hw1]
  clear hw1 hbs hbm
  refine (anchor15_any w1).mono ?_
  rintro e w2 ⟨rfl, k2⟩
  have CC := hid (C1.out.trans k2 (fun _ h _ => h))
  replace BC := hid (k2.blk BC.out (fun h => h))
  replace BS := hid (k2.blk BS.out (fun h => h))
  replace BM := hid (k2.blk BM.out (fun h => h))
  replace HL := hid (HL.out.chg k2 (fun _ _ h => h))
  clear k2
  go_upto_region 3 with fail
  have S_0 : ∀ wx, Chg (fun _ => False) w2 wx → wx.cell? ⟨bs, 0, none⟩ = some (.int .i64 s.view) := fun wx hx => (cellAt (hx.blk BS.out (fun h => h)) 0).trans rfl
  have S_1 : ∀ wx, Chg (fun _ => False) w2 wx → wx.cell? ⟨bs, 1, none⟩ = some (.int .i64 s.normal) := fun wx hx => (cellAt (hx.blk BS.out (fun h => h)) 1).trans rfl
  have S_2 : ∀ wx, Chg (fun _ => False) w2 wx → wx.cell? ⟨bs, 2, none⟩ = some (.int .i64 s.commit) := fun wx hx => (cellAt (hx.blk BS.out (fun h => h)) 2).trans rfl
  have S_3 : ∀ wx, Chg (fun _ => False) w2 wx → wx.cell? ⟨bs, 3, none⟩ = some (.int .i64 s.active) := fun wx hx => (cellAt (hx.blk BS.out (fun h => h)) 3).trans rfl
  have S_4 : ∀ wx, Chg (fun _ => False) w2 wx → wx.cell? ⟨bs, 4, none⟩ = some (.slice A n c) := fun wx hx => (cellAt (hx.blk BS.out (fun h => h)) 4).trans rfl
  have Mm_0 : ∀ wx, Chg (fun _ => False) w2 wx → wx.cell? ⟨bm, 0, none⟩ = some (.int .i64 m.kind) := fun wx hx => (cellAt (hx.blk BM.out (fun h => h)) 0).trans rfl
  have Mm_1 : ∀ wx, Chg (fun _ => False) w2 wx → wx.cell? ⟨bm, 1, none⟩ = some (.int .i64 m.view) := fun wx hx => (cellAt (hx.blk BM.out (fun h => h)) 1).trans rfl
  have Mm_2 : ∀ wx, Chg (fun _ => False) w2 wx → wx.cell? ⟨bm, 2, none⟩ = some (.int .i64 m.src) := fun wx hx => (cellAt (hx.blk BM.out (fun h => h)) 2).trans rfl
  have Mm_3 : ∀ wx, Chg (fun _ => False) w2 wx → wx.cell? ⟨bm, 3, none⟩ = some (.int .i64 m.dst) := fun wx hx => (cellAt (hx.blk BM.out (fun h => h)) 3).trans rfl
  have Mm_4 : ∀ wx, Chg (fun _ => False) w2 wx → wx.cell? ⟨bm, 4, none⟩ = some (.int .i64 m.op) := fun wx hx => (cellAt (hx.blk BM.out (fun h => h)) 4).trans rfl
  have Mm_5 : ∀ wx, Chg (fun _ => False) w2 wx → wx.cell? ⟨bm, 5, none⟩ = some (.int .i64 m.commit) := fun wx hx => (cellAt (hx.blk BM.out (fun h => h)) 5).trans rfl
  have Mm_6 : ∀ wx, Chg (fun _ => False) w2 wx → wx.cell? ⟨bm, 6, none⟩ = some (.int .i64 m.normal) := fun wx hx => (cellAt (hx.blk BM.out (fun h => h)) 6).trans rfl
  have Mm_7 : ∀ wx, Chg (fun _ => False) w2 wx → wx.cell? ⟨bm, 7, none⟩ = some (.slice B k d) := fun wx hx => (cellAt (hx.blk BM.out (fun h => h)) 7).trans rfl
  refine wpB_start (fun wx : World => Chg (fun _ => False) w2 wx) (by kernel_rfl) ?_
  have hHeld : (fun wx : World => Chg (fun _ => False) w2 wx) _ := (Chg.refl (fun _ => False) w2).drew
  -- 0: t17 := load 26 t5 : 26
  refine wpB_take (i := 0) (v := ?_) (get_of_drop rfl) (by kernel_rfl) (by kernel_rfl) (by kernel_rfl) (by kernel_rfl) (fun _ _ _ h => h) (Or.inl ⟨by rfl, ?_⟩) hHeld ?_
  rotate_left
  · (intro w hSw; (try dsimp only at hSw); go_simp <;> with_reducible rfl)
  try simp only [Act.put, List.setIfInBounds_toArray, List.set_cons_zero, List.set_cons_succ]
  -- 1: t18 := load 41 t7 : 41
  refine wpB_take (i := 1) (v := ?_) (get_of_drop rfl) (by kernel_rfl) (by kernel_rfl) (by kernel_rfl) (by kernel_rfl) (fun _ _ _ h => h) (Or.inl ⟨by rfl, ?_⟩) hHeld ?_
  rotate_left
  · (intro w hSw; (try dsimp only at hSw); go_simp <;> with_reducible rfl)
  try simp only [Act.put, List.setIfInBounds_toArray, List.set_cons_zero, List.set_cons_succ]
  -- 2: t19 := build 58 [⟨0, #i64:3⟩, ⟨2, t18⟩] : 58
  refine wpB_take (i := 2) (v := ?_) (get_of_drop rfl) (by kernel_rfl) (by kernel_rfl) (by kernel_rfl) (by kernel_rfl) (fun _ _ _ h => h) (Or.inl ⟨by rfl, ?_⟩) hHeld ?_
  rotate_left
  · (intro w hSw; (try dsimp only at hSw); go_simp <;> with_reducible rfl)
  try simp only [Act.put, List.setIfInBounds_toArray, List.set_cons_zero, List.set_cons_succ]
  -- 4: t21 := move t2 : 46
  refine wpB_take (i := 4) (v := ?_) (get_of_drop rfl) (by kernel_rfl) (by kernel_rfl) (by kernel_rfl) (by kernel_rfl) (fun _ _ _ h => h) (Or.inl ⟨by rfl, ?_⟩) hHeld ?_
  rotate_left
  · (intro w hSw; (try dsimp only at hSw); go_simp <;> with_reducible rfl)
  try simp only [Act.put, List.setIfInBounds_toArray, List.set_cons_zero, List.set_cons_succ]
  -- 3: t20 := buildSlice 46 1 [⟨0, t19⟩] : 46
  refine wpB_act (i := 3) (by kernel_rfl) (get_of_drop rfl) (fun K hK => ?_)
  go_simp
  obtain ⟨wl, hwl⟩ : ∃ q_, q_ = (w2.alloc (.cells #[.int .i64 3, .int .i64 0, .int .i64 0, .int .i64 0, .int .i64 0, .int .i64 0, .int .i64 0, .int .i64 0, .slice none 0 0, .slice none 0 0, .int .i64 m.kind, .int .i64 m.view, .int .i64 m.src, .int .i64 m.dst, .int .i64 m.op, .int .i64 m.commit, .int .i64 m.normal, .slice B k d] 58)).drew := ⟨_, rfl⟩
  rw [← hwl]
  have HWL := hid (show Chg (fun _ => False) w2 wl by rw [hwl]; exact ((Chg.refl _ w2).alloc _).drew)
  have HLIT := hid (show Ty.At opK wl (fun j => j < w.heap.size ∨ j = w2.heap.size) (some ⟨w2.heap.size, 0, none⟩) 1 1 [op3 m] by rw [hwl]; exact (lit_at (cs := #[.int .i64 3, .int .i64 0, .int .i64 0, .int .i64 0, .int .i64 0, .int .i64 0, .int .i64 0, .int .i64 0, .slice none 0 0, .slice none 0 0, .int .i64 m.kind, .int .i64 m.view, .int .i64 m.src, .int .i64 m.dst, .int .i64 m.op, .int .i64 m.commit, .int .i64 m.normal, .slice B k d]) (t := 58) (op3_shut (msgK.chg HMK.out CC.out (fun _ _ h => h)))).chg ((Chg.refl (fun _ => False) _).drew) (fun _ _ h => h))
  clear hwl
  refine hK.out _ _ ?_ (fun hHeld2 => ?_)
  · first | assumption | exact HWL.out | exact HC7.out
  clear hHeld hK K
  have hHeld := hHeld2
  clear hHeld2
  try simp only [Act.put, List.setIfInBounds_toArray, List.set_cons_zero, List.set_cons_succ]
  -- 5: t22 := append(t20, t21) types [46, 46] : 46
  refine wpB_act (i := 5) (by kernel_rfl) (get_of_drop rfl) (fun K hK => ?_)
  refine joins_step (d := opK) _ rfl (.tmp 20) (.tmp 21) 46 58 (.agg #[.int .i64 0, .int .i64 0, .int .i64 0, .int .i64 0, .int .i64 0, .int .i64 0, .int .i64 0, .int .i64 0, .slice none 0 0, .slice none 0 0, .int .i64 0, .int .i64 0, .int .i64 0, .int .i64 0, .int .i64 0, .int .i64 0, .int .i64 0, .slice none 0 0]) 192 rfl Try.underlying46 infoOp rfl (by decide) (by decide) (A := some ⟨w2.heap.size, 0, none⟩) (n := 1) (B := L) (m := ln) (c := lc) rfl rfl HLIT.out ((HLL.out.chg CC.out (fun _ _ h => h)).chg HWL.out (fun _ _ h => h)) (by have := HLB.out; omega) ?_
  intro A7 c7 w7 h7 k7
  have HC7 := hid (show Chg (fun _ => False) w2 w7 from HWL.out.trans k7 (fun _ h _ => h))
  have HL7 := hid h7
  clear h7 k7
  refine hK.out _ _ ?_ (fun hHeld2 => ?_)
  · first | assumption | exact HWL.out | exact HC7.out
  clear hHeld hK K
  have hHeld := hHeld2
  clear hHeld2
  try simp only [Act.put, List.setIfInBounds_toArray, List.set_cons_zero, List.set_cons_succ]
  -- 6: t23 := CALL fn19(t17, t22, #i64:30) : 4 (BARRIER)
  refine wpB_bar (i := 6) (by kernel_rfl) (get_of_drop rfl) (by kernel_rfl) (fun K hK => ?_)
  go_simp
  refine (small15_any (R := fun _ => True) ((HL.out.chg HC7.out (fun _ _ h => h)).mono (fun _ _ => trivial)) (HL7.out.mono (fun _ _ => trivial)) 30).mono ?_
  rintro e' w3 ⟨rfl, k3⟩
  have K3 := hid (show Chg (fun _ => False) w2 w3 from HC7.out.trans k3 (fun _ h _ => h))
  clear k3
  rw [show [op3 m] ++ l = op3 m :: l from rfl]
  refine hK.out _ _ (fun _ : World => True) ?_
  clear hHeld hK K
  have hHeld := trivial
  try simp only [Act.put, List.setIfInBounds_toArray, List.set_cons_zero, List.set_cons_succ]
  -- 7: t24 := unOp UnOp.not 4 t23 : 4
  refine wpB_take (i := 7) (v := ?_) (get_of_drop rfl) (by kernel_rfl) (by kernel_rfl) (by kernel_rfl) (by kernel_rfl) (fun _ _ _ h => h) (Or.inl ⟨by rfl, ?_⟩) hHeld ?_
  rotate_left
  · (intro w hSw; (try dsimp only at hSw); go_simp <;> with_reducible rfl)
  try simp only [Act.put, List.setIfInBounds_toArray, List.set_cons_zero, List.set_cons_succ]
  refine wpB_done (by kernel_rfl) ?_ _
  clear hHeld S_0 S_1 S_2 S_3 S_4 Mm_0 Mm_1 Mm_2 Mm_3 Mm_4 Mm_5 Mm_6 Mm_7
  replace CC := hid (CC.out.trans K3.out (fun _ h _ => h))
  replace BC := hid (K3.out.blk BC.out (fun h => h))
  replace BS := hid (K3.out.blk BS.out (fun h => h))
  replace BM := hid (K3.out.blk BM.out (fun h => h))
  replace HL := hid (HL.out.chg K3.out (fun _ _ h => h))
  clear K3
  cases hsm : small15 s (op3 m :: l) 30
  · go_wp2_with fail
    go_ret
    exact ⟨rfl, CC.out.below (Nat.le_refl _) (fun _ h => h.elim)⟩
  have HSM := hid (small15_iff hsm)
  have HN7 := hid (show n ≤ 1000000 by have h1 := HL.out.1; have h2 := smallR_len HSM.out.2; omega)
  have HLN := hid (show ln ≤ 1000 by have h1 := HSM.out.1; have h2 := LN.out; simp at h1; omega)
  have HC0 := hid (lt_of_blk BC.out)
  have HC1 := hid (lt_of_blk BS.out)
  have HC2 := hid (lt_of_blk BM.out)
  clear hsm
  have C_0 : w3.cell? ⟨w.heap.size, 0, none⟩ = some (.int .i64 x.1) := (cellAt BC.out 0).trans rfl
  have C_1 : w3.cell? ⟨w.heap.size, 1, none⟩ = some (.int .i64 x.2.1) := (cellAt BC.out 1).trans rfl
  have C_2 : w3.cell? ⟨w.heap.size, 2, none⟩ = some (.int .i64 x.2.2) := (cellAt BC.out 2).trans rfl
  have S_0 : w3.cell? ⟨bs, 0, none⟩ = some (.int .i64 s.view) := (cellAt BS.out 0).trans rfl
  have S_1 : w3.cell? ⟨bs, 1, none⟩ = some (.int .i64 s.normal) := (cellAt BS.out 1).trans rfl
  have S_2 : w3.cell? ⟨bs, 2, none⟩ = some (.int .i64 s.commit) := (cellAt BS.out 2).trans rfl
  have S_3 : w3.cell? ⟨bs, 3, none⟩ = some (.int .i64 s.active) := (cellAt BS.out 3).trans rfl
  have S_4 : w3.cell? ⟨bs, 4, none⟩ = some (.slice A n c) := (cellAt BS.out 4).trans rfl
  go_wp2_with fail
  clear C_0 C_1 C_2 S_0 S_1 S_2 S_3 S_4
  refine (rnew_any (R := fun k => k < w.heap.size) HL.out HN7.out HNW.out).mono ?_
  rintro e wn (⟨_, rfl, hc⟩ | ⟨hcf, hst, p, b1, b2, b3, A9, n9, c9, rfl, hM, hR, hc⟩)
  · have CN := hid (CC.out.trans hc (fun _ h _ => h))
    clear hc
    go_wp2_with fail
    go_ret
    exact ⟨rfl, CN.out.below (Nat.le_refl _) (fun _ h => h.elim)⟩
  have HM4 := hid (show ∀ k, M4 p b1 b2 b3 k → w3.heap.size ≤ k from fun k hk => (hM k hk).1)
  have HSZ := hid (show w.heap.size ≤ w3.heap.size from CC.out.size)
  have Q := hid (show RQ wn p b1 b2 b3 (M4 p b1 b2 b3) (newR x.1 x.2.1 x.2.2 s) from (RQ.mk (RpOk.new hcf hst) rfl ⟨A9, n9, c9, hR⟩).less (fun k hk => hk) (fun k hk => .inl hk))
  have KK := hid (show Chg (M4 p b1 b2 b3) w wn from (CC.out.trans hc (fun _ h _ => h)).mono (fun _ h _ => h.elim))
  have HFIN := hid (show ∀ w', Chg (M4 p b1 b2 b3) w w' → Below w.heap.size w w' from fun w' h => h.below (Nat.le_refl _) (fun k hk => Nat.le_trans HSZ.out (HM4.out k hk)))
  have HCF := hid hcf
  have HST := hid hst
  have WNS := hid (show ∀ k, M4 p b1 b2 b3 k → k < wn.heap.size from fun k hk => (hM k hk).2)
  have HP4 := hid (show w3.heap.size ≤ wn.heap.size from hc.size)
  have HBSL := hid (show bs < wn.heap.size from Nat.lt_of_lt_of_le (lt_of_blk BS.out) hc.size)
  have MB := hid (show ∀ k, M4 p b1 b2 b3 k → w.heap.size ≤ k from fun k hk => Nat.le_trans HSZ.out (HM4.out k hk))
  replace BC := hid (hc.blk BC.out (fun h => h))
  replace BS := hid (hc.blk BS.out (fun h => h))
  replace BM := hid (hc.blk BM.out (fun h => h))
  have HBC := hid (show ¬ M4 p b1 b2 b3 w.heap.size from fun e => by have h1 := HM4.out _ e; have h2 := lt_of_blk BC.out; have h3 := HC0.out; omega)
  have HBS := hid (show ¬ M4 p b1 b2 b3 bs from fun e => by have h1 := HM4.out _ e; have h3 := HC1.out; omega)
  clear hcf hst hM hR hc
  have HBM := hid (show ¬ M4 p b1 b2 b3 bm from fun e => by have h1 := HM4.out _ e; have h3 := HC2.out; omega)
  obtain ⟨r0, hr0⟩ : ∃ q_, q_ = newR x.1 x.2.1 x.2.2 s := ⟨_, rfl⟩
  have HR0 := hid (show r0.quiet = 0 by rw [hr0]; rfl)
  rw [← hr0] at Q
  clear hr0
  go_wp2_with fail
  go_loopw [37] (fun i wr => ∃ (q : Nat) (r : Rp), q ≤ ln ∧ i = .int .i64 q ∧ RQ wr p b1 b2 b3 (M4 p b1 b2 b3) r ∧ (0 ≤ r.quiet ∧ r.quiet ≤ (q : Int)) ∧ Chg (M4 p b1 b2 b3) wn wr) (fun i _ => ln - (intOf i).toNat)
  case atStart => exact ⟨0, r0, Nat.zero_le _, rfl, Q.out, by rw [HR0.out]; exact ⟨Int.le_refl _, Int.le_refl _⟩, Chg.refl _ _⟩
  case round =>
    revert hrel; revert wr; intro wr hrel
    obtain ⟨q, r, hq, rfl, hQ, hqt, hC⟩ := hrel
    have QQ := hid hQ
    have HC := hid hC
    have HQT := hid (show 0 ≤ r.quiet ∧ r.quiet ≤ 1000000 by have h1 := HLN.out; omega)
    have HQT2 := hid hqt
    have BMr := hid (hC.blk BM.out HBM.out)
    clear hQ hC hqt
    have CW := hid (show Chg (M4 p b1 b2 b3) w wr from KK.out.trans HC.out (fun _ h _ => h))
    by_cases hlt : q < ln
    · have hlt2 : (q : Int) < (ln : Int) := by omega
      have HLTQ := hid hlt
      obtain ⟨o, hx⟩ : ∃ o, l[q]? = some o := ⟨_, List.getElem?_eq_getElem (by have := LN.out; omega)⟩
      obtain ⟨a, cs, ha, haR, hK, hcs⟩ := (HLL.out.chg CW.out (fun k hk e => by have h1 : k < w.heap.size := hk; have := MB.out k e; omega)).get (by decide) hx
      obtain ⟨E1, m1, d1, E2, m2, d2, B, k, d, rfl, hent, hmsg, _⟩ := op_open (id hK)
      subst ha
      have HCS := hid (show ∀ j v, ([.int .i64 o.kind, .int .i64 o.entry.view, .int .i64 o.entry.client, .int .i64 o.entry.request, .int .i64 o.entry.dflt, .int .i64 o.entry.closed, .int .i64 o.entry.fuel, .int .i64 o.entry.stack, .slice E1 m1 d1, .slice E2 m2 d2, .int .i64 o.msg.kind, .int .i64 o.msg.view, .int .i64 o.msg.src, .int .i64 o.msg.dst, .int .i64 o.msg.op, .int .i64 o.msg.commit, .int .i64 o.msg.normal, .slice B k d] : List Value)[j]? = some v → wr.cell? ((a.add (q * 18)).add j) = some v from fun j v hj => by rw [C.add_add]; exact hcs j v hj)
      have HEN := hid hent
      have HMS := hid hmsg
      obtain ⟨W1, hW1⟩ : ∃ W1, W1 = wr.alloc (.cells #[.int .i64 o.kind, .int .i64 o.entry.view, .int .i64 o.entry.client, .int .i64 o.entry.request, .int .i64 o.entry.dflt, .int .i64 o.entry.closed, .int .i64 o.entry.fuel, .int .i64 o.entry.stack, .slice E1 m1 d1, .slice E2 m2 d2, .int .i64 o.msg.kind, .int .i64 o.msg.view, .int .i64 o.msg.src, .int .i64 o.msg.dst, .int .i64 o.msg.op, .int .i64 o.msg.commit, .int .i64 o.msg.normal, .slice B k d] 58) := ⟨_, rfl⟩
      have CW1 := hid (show Chg (fun _ => False) wr W1 by rw [hW1]; exact (Chg.refl _ wr).alloc _)
      have BW1 := hid (show W1.heap[wr.heap.size]? = some (.cells #[.int .i64 o.kind, .int .i64 o.entry.view, .int .i64 o.entry.client, .int .i64 o.entry.request, .int .i64 o.entry.dflt, .int .i64 o.entry.closed, .int .i64 o.entry.fuel, .int .i64 o.entry.stack, .slice E1 m1 d1, .slice E2 m2 d2, .int .i64 o.msg.kind, .int .i64 o.msg.view, .int .i64 o.msg.src, .int .i64 o.msg.dst, .int .i64 o.msg.op, .int .i64 o.msg.commit, .int .i64 o.msg.normal, .slice B k d] 58 (0, 0)) by rw [hW1]; exact blk_new wr _)
      have HBX := hid (show ∀ j v, ([.int .i64 o.kind, .int .i64 o.entry.view, .int .i64 o.entry.client, .int .i64 o.entry.request, .int .i64 o.entry.dflt, .int .i64 o.entry.closed, .int .i64 o.entry.fuel, .int .i64 o.entry.stack, .slice E1 m1 d1, .slice E2 m2 d2, .int .i64 o.msg.kind, .int .i64 o.msg.view, .int .i64 o.msg.src, .int .i64 o.msg.dst, .int .i64 o.msg.op, .int .i64 o.msg.commit, .int .i64 o.msg.normal, .slice B k d] : List Value)[j]? = some v → (wr.alloc (.cells #[.int .i64 o.kind, .int .i64 o.entry.view, .int .i64 o.entry.client, .int .i64 o.entry.request, .int .i64 o.entry.dflt, .int .i64 o.entry.closed, .int .i64 o.entry.fuel, .int .i64 o.entry.stack, .slice E1 m1 d1, .slice E2 m2 d2, .int .i64 o.msg.kind, .int .i64 o.msg.view, .int .i64 o.msg.src, .int .i64 o.msg.dst, .int .i64 o.msg.op, .int .i64 o.msg.commit, .int .i64 o.msg.normal, .slice B k d] 58)).cell? ((⟨wr.heap.size, 0, none⟩ : Addr).add j) = some v from fun j v hj => by rw [← hW1, add_at, Nat.zero_add, cellAt BW1.out]; simpa using hj)
      have HW1 := hid hW1
      clear hW1
      clear hcs hK hx haR hent hmsg
      go_wp2_with (first | ((with_reducible refine at_dst (N := 40) rfl ?_); (refine load_agg_step wr rfl (.tmp 39) 58 rfl _ Try.underlying58 rfl (a.add (q * 18)) rfl ([.int .i64 o.kind, .int .i64 o.entry.view, .int .i64 o.entry.client, .int .i64 o.entry.request, .int .i64 o.entry.dflt, .int .i64 o.entry.closed, .int .i64 o.entry.fuel, .int .i64 o.entry.stack, .slice E1 m1 d1, .slice E2 m2 d2, .int .i64 o.msg.kind, .int .i64 o.msg.view, .int .i64 o.msg.src, .int .i64 o.msg.dst, .int .i64 o.msg.op, .int .i64 o.msg.commit, .int .i64 o.msg.normal, .slice B k d] : List Value) (by kernel_rfl) HCS.out ?_)) | (refine store_agg_step wr rfl (.tmp 12) (.tmp 40) 58 rfl #[.int .i64 0, .int .i64 0, .int .i64 0, .int .i64 0, .int .i64 0, .int .i64 0, .int .i64 0, .int .i64 0, .slice none 0 0, .slice none 0 0, .int .i64 0, .int .i64 0, .int .i64 0, .int .i64 0, .int .i64 0, .int .i64 0, .int .i64 0, .slice none 0 0] #[.int .i64 o.kind, .int .i64 o.entry.view, .int .i64 o.entry.client, .int .i64 o.entry.request, .int .i64 o.entry.dflt, .int .i64 o.entry.closed, .int .i64 o.entry.fuel, .int .i64 o.entry.stack, .slice E1 m1 d1, .slice E2 m2 d2, .int .i64 o.msg.kind, .int .i64 o.msg.view, .int .i64 o.msg.src, .int .i64 o.msg.dst, .int .i64 o.msg.op, .int .i64 o.msg.commit, .int .i64 o.msg.normal, .slice B k d] rfl rfl (by kernel_rfl) rfl (by first | kernel_rfl | simp [Value.oneCell']) ?_) | ((with_reducible refine at_dst (N := 42) rfl ?_); (refine load_agg_step (wr.alloc (.cells #[.int .i64 o.kind, .int .i64 o.entry.view, .int .i64 o.entry.client, .int .i64 o.entry.request, .int .i64 o.entry.dflt, .int .i64 o.entry.closed, .int .i64 o.entry.fuel, .int .i64 o.entry.stack, .slice E1 m1 d1, .slice E2 m2 d2, .int .i64 o.msg.kind, .int .i64 o.msg.view, .int .i64 o.msg.src, .int .i64 o.msg.dst, .int .i64 o.msg.op, .int .i64 o.msg.commit, .int .i64 o.msg.normal, .slice B k d] 58)) rfl (.tmp 12) 58 rfl _ Try.underlying58 rfl ⟨wr.heap.size, 0, none⟩ rfl ([.int .i64 o.kind, .int .i64 o.entry.view, .int .i64 o.entry.client, .int .i64 o.entry.request, .int .i64 o.entry.dflt, .int .i64 o.entry.closed, .int .i64 o.entry.fuel, .int .i64 o.entry.stack, .slice E1 m1 d1, .slice E2 m2 d2, .int .i64 o.msg.kind, .int .i64 o.msg.view, .int .i64 o.msg.src, .int .i64 o.msg.dst, .int .i64 o.msg.op, .int .i64 o.msg.commit, .int .i64 o.msg.normal, .slice B k d] : List Value) (by kernel_rfl) HBX.out ?_)))
      rw [← HW1.out]
      refine (does_any (QQ.out.far CW1.out) (EntryAt.chg HEN.out CW1.out (fun _ _ h => h)) (HMS.out.chg CW1.out (fun _ _ h => h)) (fun j hj _ e => by have h1 : j < w.heap.size := hj; have h2 := MB.out j e; omega) HQT.out).mono ?_
      rintro e w9 ⟨A10, c10, rfl, hq10, hv10, k10⟩
      obtain ⟨r1, hr1⟩ : ∃ q_, q_ = { (doesR r o).1 with out := [] } := ⟨_, rfl⟩
      have HR1 := hid hr1
      have HKE := hid (show Keep r.s r1.s by rw [hr1]; exact does_keep QQ.out.ok o)
      have HQ1 := hid (show 0 ≤ r1.quiet ∧ r1.quiet ≤ r.quiet + 1 by rw [hr1]; exact does_quiet HQT.out.1 o)
      have Q10 := hid (show RQ w9 p b1 b2 b3 (M4 p b1 b2 b3) r1 by rw [hr1]; exact hq10)
      have K10 := hid (show Chg (M4 p b1 b2 b3) wr w9 from (CW1.out.mono (fun _ h _ => h.elim)).trans k10 (fun _ h _ => h))
      have HV10 := hid hv10
      have Z9 := hid (show wr.heap.size ≤ W1.heap.size from CW1.out.size)
      clear hq10 hv10 k10 hr1
      go_wp2_with fail
      go_roundw
      case measure => simp [intOf]; omega
      case rel => first | exact ⟨q + 1, r1, HLTQ.out, by go_num, Q10.out, by have := HQ1.out; have := HQT2.out; omega, HC.out.trans K10.out (fun _ h _ => h)⟩ | ((repeat apply Exists.intro); exact ⟨⟨q + 1, r1, HLTQ.out, by go_num, Q10.out, by have := HQ1.out; have := HQT2.out; omega, HC.out.trans K10.out (fun _ h _ => h)⟩, rfl⟩)
    · have hqn : ¬ (q : Int) < (ln : Int) := by omega
      have HMr := hid (HML.out.chg CW.out (fun k hk e => by have h1 : k < w.heap.size := hk; have := MB.out k e; omega))
      have Mr_0 : wr.cell? ⟨bm, 0, none⟩ = some (.int .i64 m.kind) := (cellAt BMr.out 0).trans rfl
      have Mr_1 : wr.cell? ⟨bm, 1, none⟩ = some (.int .i64 m.view) := (cellAt BMr.out 1).trans rfl
      have Mr_2 : wr.cell? ⟨bm, 2, none⟩ = some (.int .i64 m.src) := (cellAt BMr.out 2).trans rfl
      have Mr_3 : wr.cell? ⟨bm, 3, none⟩ = some (.int .i64 m.dst) := (cellAt BMr.out 3).trans rfl
      have Mr_4 : wr.cell? ⟨bm, 4, none⟩ = some (.int .i64 m.op) := (cellAt BMr.out 4).trans rfl
      have Mr_5 : wr.cell? ⟨bm, 5, none⟩ = some (.int .i64 m.commit) := (cellAt BMr.out 5).trans rfl
      have Mr_6 : wr.cell? ⟨bm, 6, none⟩ = some (.int .i64 m.normal) := (cellAt BMr.out 6).trans rfl
      have Mr_7 : wr.cell? ⟨bm, 7, none⟩ = some (.slice B k d) := (cellAt BMr.out 7).trans rfl
      go_wp2_with fail
      clear Mr_0 Mr_1 Mr_2 Mr_3 Mr_4 Mr_5 Mr_6 Mr_7
      refine (rq_deliver QQ.out HMr.out (fun j hj _ e => by have h1 : j < w.heap.size := hj; have h2 := MB.out j e; omega)).mono ?_
      rintro e wa ⟨A10, c10, rfl, hqa, _, ka⟩
      obtain ⟨r1, hr1⟩ : ∃ q_, q_ = { (deliverR r m).1 with out := [] } := ⟨_, rfl⟩
      have HR1 := hid hr1
      have QA := hid (show RQ wa p b1 b2 b3 (M4 p b1 b2 b3) r1 by rw [hr1]; exact hqa)
      have CA := hid (show Chg (M4 p b1 b2 b3) w wa from CW.out.trans ka (fun _ h _ => h))
      have BMA := hid (ka.blk BMr.out HBM.out)
      clear hqa ka hr1
      go_wp2_with fail
      refine (rq_state QA.out).mono ?_
      rintro e wb ⟨Ab, cb, rfl, hat, kb⟩
      have QB := hid (QA.out.far kb)
      have HATB := hid (show Ty.At entryK wb (fun j => ¬ M4 p b1 b2 b3 j) Ab r1.s.log.length cb r1.s.log from hat.mono (fun j hj e => by have h1 := QA.out.lt j e; have h2 := hj.1; omega))
      have CB := hid (CA.out.trans kb (fun _ h _ => h.elim))
      have BMB := hid (kb.blk BMA.out (fun h => h))
      clear hat kb
      obtain ⟨b13, hb13⟩ : ∃ q_, q_ = wb.heap.size := ⟨_, rfl⟩
      obtain ⟨wc, hwc⟩ : ∃ q_, q_ = wb.alloc (.cells #[.int .i64 r1.s.view, .int .i64 r1.s.normal, .int .i64 r1.s.commit, .int .i64 r1.s.active, .slice Ab r1.s.log.length cb] 26) := ⟨_, rfl⟩
      have CC1 := hid (show Chg (fun _ => False) wb wc by rw [hwc]; exact (Chg.refl _ wb).alloc _)
      have B13 := hid (show wc.heap[b13]? = some (.cells #[.int .i64 r1.s.view, .int .i64 r1.s.normal, .int .i64 r1.s.commit, .int .i64 r1.s.active, .slice Ab r1.s.log.length cb] 26 (0, 0)) by rw [hwc, hb13]; exact blk_new wb _)
      have HB13 := hid (show ¬ M4 p b1 b2 b3 b13 from fun e => by have := QB.out.lt b13 e; omega)
      go_upto_region 15 with fail
      rw [← hwc, ← hb13]
      clear hwc hb13
      have QC := hid (QB.out.far CC1.out)
      have BMC := hid (CC1.out.blk BMB.out (fun h => h))
      have CD := hid (CB.out.trans CC1.out (fun _ h _ => h.elim))
      have HATC := hid (HATB.out.chg CC1.out (fun _ _ h => h))
      have HMC := hid (HML.out.chg CD.out (fun k hk e => by have h1 : k < w.heap.size := hk; have := MB.out k e; omega))
      have Mr_0 : wc.cell? ⟨bm, 0, none⟩ = some (.int .i64 m.kind) := (cellAt BMC.out 0).trans rfl
      have Mr_1 : wc.cell? ⟨bm, 1, none⟩ = some (.int .i64 m.view) := (cellAt BMC.out 1).trans rfl
      have Mr_2 : wc.cell? ⟨bm, 2, none⟩ = some (.int .i64 m.src) := (cellAt BMC.out 2).trans rfl
      have Mr_3 : wc.cell? ⟨bm, 3, none⟩ = some (.int .i64 m.dst) := (cellAt BMC.out 3).trans rfl
      have Mr_4 : wc.cell? ⟨bm, 4, none⟩ = some (.int .i64 m.op) := (cellAt BMC.out 4).trans rfl
      have Mr_5 : wc.cell? ⟨bm, 5, none⟩ = some (.int .i64 m.commit) := (cellAt BMC.out 5).trans rfl
      have Mr_6 : wc.cell? ⟨bm, 6, none⟩ = some (.int .i64 m.normal) := (cellAt BMC.out 6).trans rfl
      have Mr_7 : wc.cell? ⟨bm, 7, none⟩ = some (.slice B k d) := (cellAt BMC.out 7).trans rfl
      go_wp2_with fail
      clear Mr_0 Mr_1 Mr_2 Mr_3 Mr_4 Mr_5 Mr_6 Mr_7
      refine (rq_deliver QC.out HMC.out (fun j hj _ e => by have h1 : j < w.heap.size := hj; have h2 := MB.out j e; omega)).mono ?_
      rintro e wd ⟨A11, c11, rfl, hqd, _, kd⟩
      obtain ⟨r2, hr2⟩ : ∃ q_, q_ = { (deliverR r1 m).1 with out := [] } := ⟨_, rfl⟩
      have HSS := hid (show SameS r1 r2 by rw [hr2, HR1.out]; exact deliver_twice r m)
      have HCO := hid (show r1.s.commit ≤ r2.s.commit by rw [hr2]; exact (keep_deliver QC.out.ok m).commit)
      have QD := hid (show RQ wd p b1 b2 b3 (M4 p b1 b2 b3) r2 by rw [hr2]; exact hqd)
      have CE := hid (show Chg (M4 p b1 b2 b3) w wd from CD.out.trans kd (fun _ h _ => h))
      have B13D := hid (kd.blk B13.out HB13.out)
      have HATD := hid (HATC.out.chg kd (fun j hj e => hj e))
      clear hqd kd hr2
      go_wp2_with fail
      refine (rq_state QD.out).mono ?_
      rintro e we ⟨Ae, ce, rfl, hat, ke⟩
      rw [HSS.out.1, HSS.out.2.1, HSS.out.2.2]
      rw [HSS.out.2.2] at hat
      have HATE := hid hat
      have CF := hid (CE.out.trans ke (fun _ h _ => h.elim))
      have B13E := hid (ke.blk B13D.out (fun h => h))
      have HATF := hid (HATD.out.chg ke (fun _ _ h => h))
      clear hat ke
      obtain ⟨b14, hb14⟩ : ∃ q_, q_ = we.heap.size := ⟨_, rfl⟩
      obtain ⟨wf, hwf⟩ : ∃ q_, q_ = we.alloc (.cells #[.int .i64 r1.s.view, .int .i64 r1.s.normal, .int .i64 r2.s.commit, .int .i64 r2.s.active, .slice Ae r1.s.log.length ce] 26) := ⟨_, rfl⟩
      have CG := hid (show Chg (fun _ => False) we wf by rw [hwf]; exact (Chg.refl _ we).alloc _)
      have B14 := hid (show wf.heap[b14]? = some (.cells #[.int .i64 r1.s.view, .int .i64 r1.s.normal, .int .i64 r2.s.commit, .int .i64 r2.s.active, .slice Ae r1.s.log.length ce] 26 (0, 0)) by rw [hwf, hb14]; exact blk_new we _)
      have B13F := hid (CG.out.blk B13E.out (fun h => h))
      go_upto_region 17 with fail
      rw [← hwf, ← hb14]
      clear hwf hb14
      have hco := HCO.out
      have SA_0 : wf.cell? ⟨b13, 0, none⟩ = some (.int .i64 r1.s.view) := (cellAt B13F.out 0).trans rfl
      have SA_1 : wf.cell? ⟨b13, 1, none⟩ = some (.int .i64 r1.s.normal) := (cellAt B13F.out 1).trans rfl
      have SA_2 : wf.cell? ⟨b13, 2, none⟩ = some (.int .i64 r1.s.commit) := (cellAt B13F.out 2).trans rfl
      have SA_3 : wf.cell? ⟨b13, 3, none⟩ = some (.int .i64 r1.s.active) := (cellAt B13F.out 3).trans rfl
      have SA_4 : wf.cell? ⟨b13, 4, none⟩ = some (.slice Ab r1.s.log.length cb) := (cellAt B13F.out 4).trans rfl
      have SE_0 : wf.cell? ⟨b14, 0, none⟩ = some (.int .i64 r1.s.view) := (cellAt B14.out 0).trans rfl
      have SE_1 : wf.cell? ⟨b14, 1, none⟩ = some (.int .i64 r1.s.normal) := (cellAt B14.out 1).trans rfl
      have SE_2 : wf.cell? ⟨b14, 2, none⟩ = some (.int .i64 r2.s.commit) := (cellAt B14.out 2).trans rfl
      have SE_3 : wf.cell? ⟨b14, 3, none⟩ = some (.int .i64 r2.s.active) := (cellAt B14.out 3).trans rfl
      have SE_4 : wf.cell? ⟨b14, 4, none⟩ = some (.slice Ae r1.s.log.length ce) := (cellAt B14.out 4).trans rfl
      go_wp2_with fail
      refine (Same_any (HATF.out.chg CG.out (fun _ _ h => h)) (HATE.out.chg CG.out (fun _ _ h => h))).mono ?_
      rintro e wg ⟨rfl, kg⟩
      rw [decide_eq_true (rfl : r1.s.log = r1.s.log)]
      have CH := hid ((CF.out.trans CG.out (fun _ h _ => h.elim)).trans kg (fun _ h _ => h.elim))
      clear kg
      go_wp2_with fail
      go_ret
      exact ⟨rfl, HFIN.out _ CH.out⟩
end Go.Proofs.Ytaldoajdhbndhaa.Pa

/- The row of the law ReplicaTwice, out of its walk: for every input that can be read the law returns true, and each argument reads behind the call as it did. -/
namespace Go.Proofs.Ytaldoajdhbndhaa.replicaTwice
open Go.ChangeShapes Go.WideShapes Go.ChangeAt Go.RowKit
open Go.ChangeMaps (open_string shut_string)
set_option linter.unusedVariables false
theorem own : ownKnob Try.prog.godebug = none := by kernel_rfl
theorem laidOut : laidOutB Try.prog = true := by kernel_rfl
set_option maxRecDepth 100000 in
theorem lifted (os : Os) (started : os.Started) (H : Type) (enc : TypeId × Value → H) :
    ReturnsInHanded {} Try.checked os 9 .any (Rows.replicaTwiceSpec.pre6 enc Try.prog Try.f9 Rows.replicaTwiceRow.domain false) (Rows.replicaTwiceSpec.post enc Try.prog Try.f9 false true false false) := by
  refine returnsInHanded_of_change_sized (C := Try.checked) own started (by kernel_rfl) Try.func9
    (ChangeSpec.witness6 (enc := enc) (C := Try.checked) false ⟨#[], #[.agg #[.int .i64 0, .int .i64 0, .int .i64 0], .agg #[.int .i64 0, .int .i64 0, .int .i64 0, .int .i64 0, .slice none 0 0], .slice none 0 0, .agg #[.int .i64 0, .int .i64 0, .int .i64 0, .int .i64 0, .int .i64 0, .int .i64 0, .int .i64 0, .slice none 0 0]], []⟩ 8 (by kernel_rfl) (by kernel_rfl) (by kernel_rfl) (by kernel_rfl)) ?_
  intro W base args ds gs before hval0 hW hcnd hsz0 _
  have hval : ∀ (j : Nat) t v, Try.f9.params[j]? = some t → args[j]? = some v → Value.okWide Try.prog W .any base t v := hval0
  have hW' := hW
  obtain ⟨p, q, hA0, hV, rfl, hfz, hnd⟩ := hW
  have hA : DataW.TrodAll enc Try.prog W 0 (fun _ => true) true Try.f9.params.toList args.toList ds p := hA0
  rw [Try.params9] at hA hval
  obtain ⟨v0, vs0, d0, ds0, p0, q0, hargs, rfl, rfl, h0, r0⟩ := trodAll_cons hA
  obtain ⟨v1, vs1, d1, ds1, p1, q1, rfl, rfl, rfl, h1, r1⟩ := trodAll_cons r0
  obtain ⟨v2, vs2, d2, ds2, p2, q2, rfl, rfl, rfl, h2, r2⟩ := trodAll_cons r1
  obtain ⟨v3, vs3, d3, ds3, p3, q3, rfl, rfl, rfl, h3, r3⟩ := trodAll_cons r2
  obtain ⟨rfl, rfl, rfl⟩ := trodAll_nil r3
  obtain rfl : args = #[v0, v1, v2, v3] := by cases args; simp_all
  obtain ⟨rfl, rfl⟩ := trodVars_none hV
  have k0 := h0
  have lt0 : ∀ x ∈ p0, x.block < W.heap.size := by obtain ⟨m, hm⟩ := k0; exact DataW.trod_lt m _ _ _ hm
  obtain ⟨cs0, rfl, _⟩ := okWide_struct Try.underlying23 (hval 0 23 v0 rfl rfl)
  obtain ⟨z0, w0⟩ : ∃ x, Pa.cfgK.K W (fun k => k < W.heap.size) x cs0.toList := by
    obtain ⟨fuel, hf⟩ := h0
    exact Pa.opens_cfg.opens enc W _ _ fuel _ _ hf
  have k1 := h1
  have lt1 : ∀ x ∈ p1, x.block < W.heap.size := by obtain ⟨m, hm⟩ := k1; exact DataW.trod_lt m _ _ _ hm
  obtain ⟨cs1, rfl, _⟩ := okWide_struct Try.underlying26 (hval 1 26 v1 rfl rfl)
  obtain ⟨z1, w1⟩ : ∃ x, Pa.stK.K W (fun k => k < W.heap.size) x cs1.toList := by
    obtain ⟨fuel, hf⟩ := h1
    exact Pa.opens_st.opens enc W _ _ fuel _ _ hf
  have k2 := h2
  have lt2 : ∀ x ∈ p2, x.block < W.heap.size := by obtain ⟨m, hm⟩ := k2; exact DataW.trod_lt m _ _ _ hm
  obtain ⟨a2, len2, cap2, rfl⟩ := okWide_slice Try.underlying46 (hval 2 46 v2 rfl rfl)
  obtain ⟨z2, w2⟩ : ∃ xs, C.Ty.At _ W (fun k => k < W.heap.size) a2 len2 cap2 xs := by
    obtain ⟨fuel, hf⟩ := h2
    obtain ⟨xs, A, n, c, hcs, hx⟩ := Pa.opens_ops.opens enc W _ _ fuel _ _ hf
    simp [Value.cells] at hcs
    obtain ⟨rfl, rfl, rfl⟩ := hcs
    exact ⟨xs, hx⟩
  have b2 : len2 * 192 ≤ 140737488351232 := by
    obtain ⟨fuel, hf⟩ := k2
    rcases Go.Deep.open_slice Try.underlying46 hf with ⟨hc, _⟩ | ⟨_, ln', cp', _, _, _, _, hc, _, _, _, _, hx, _⟩
    · simp [Value.cells] at hc
      omega
    · simp [Value.cells] at hc
      obtain ⟨_, rfl, rfl⟩ := hc
      have hd := congrArg Prod.fst hx
      dsimp only at hd
      have hs := sized_slice hsz0 (j := 2) (t := 46) (e := 58) rfl (by rw [hd]; rfl) Try.underlying46
      rw [show Try.checked.prog.bytesOf 58 = 192 by kernel_rfl, show reachBytes = 140737488351232 by kernel_rfl, List.length_map, List.length_range] at hs
      exact Nat.le_trans (Nat.mul_le_mul_right _ (Nat.le_add_right _ _)) hs
  have k3 := h3
  have lt3 : ∀ x ∈ p3, x.block < W.heap.size := by obtain ⟨m, hm⟩ := k3; exact DataW.trod_lt m _ _ _ hm
  obtain ⟨cs3, rfl, _⟩ := okWide_struct Try.underlying41 (hval 3 41 v3 rfl rfl)
  obtain ⟨z3, w3⟩ : ∃ x, Pa.msgK.K W (fun k => k < W.heap.size) x cs3.toList := by
    obtain ⟨fuel, hf⟩ := h3
    exact Pa.opens_msg.opens enc W _ _ fuel _ _ hf
  clear hA0 hval0 hsz0
  refine (Pa.ReplicaTwice_walk W cs0 z0 w0 cs1 z1 w1 a2 len2 cap2 z2 w2 b2 cs3 z3 w3).mono fun e W' ⟨he, bel⟩ => ?_
  subst he
  exact ⟨_, rfl, _, _, _, [], _, [], hW', trodAll_mk1 (shut_bool (Try.underlying4) _), (trodAll_cons_mk (Below.trod laidOut (by kernel_rfl) (of_decide_eq_true (by kernel_rfl)) k0 bel lt0) (trodAll_cons_mk (Below.trod laidOut (by kernel_rfl) (of_decide_eq_true (by kernel_rfl)) k1 bel lt1) (trodAll_cons_mk (Below.trod laidOut (by kernel_rfl) (of_decide_eq_true (by kernel_rfl)) k2 bel lt2) (trodAll_cons_mk (Below.trod laidOut (by kernel_rfl) (of_decide_eq_true (by kernel_rfl)) k3 bel lt3) trodAll_mk0)))), rfl, bel.frame _, fun h => by cases h⟩
theorem over : Rows.replicaTwiceRow.holds Try.pinned (OpenSpec.ofChange Rows.replicaTwiceSpec) :=
  OpenClaim.holds_of_wide 9 Try.f9 rfl rfl rfl rfl rfl rfl rfl ⟨rfl, rfl, rfl, rfl, rfl⟩ rfl rfl rfl rfl rfl (by kernel_rfl) Try.func9 (by kernel_rfl)
    (of_decide_eq_true (by kernel_rfl)) (by unfold Func.isWrapper; first | (rw [if_pos (by decide +kernel)]; kernel_rfl) | (rw [if_neg (by decide +kernel)]; exact ⟨rfl, rfl⟩))
    (fun os started H enc _ => lifted os started H enc)
end Go.Proofs.Ytaldoajdhbndhaa.replicaTwice
namespace Go.Proofs.Ytaldoajdhbndhaa
theorem replicaTwice_holds : Rows.ReplicaTwiceSaid := replicaTwice.over
#print axioms replicaTwice_holds
end Go.Proofs.Ytaldoajdhbndhaa
