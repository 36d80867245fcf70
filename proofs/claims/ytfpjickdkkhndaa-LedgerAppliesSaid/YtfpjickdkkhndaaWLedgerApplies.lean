
/- The walk of the law LedgerApplies. -/

import Derived.Test.YtfpjickdkkhndaaMI
import Derived.Test.YtfpjickdkkhndaaMG
import Derived.Test.YtfpjickdkkhndaaME
namespace Go.Proofs.Ytfpjickdkkhndaa.Pa

set_option linter.unusedVariables false

set_option linter.unusedSimpArgs false

open Go.RowKit Go.Proofs.Ytfpjickdkkhndaa.C

attribute [local go_sem] max2_int min2_int max_two min_two
theorem applyP_right {s : St} {r : Rec} (h : (applyP s r).2 = 0) : stR (applyP s r).1 = true := by
  unfold applyP at h ⊢
  split at h
  · rename_i hh
    rw [if_pos hh]
    rw [Bool.and_eq_true] at hh
    split at h
    · rename_i t ht
      first | (rw [ht]; exact applyS_right hh.1 hh.2 ht) | exact applyS_right hh.1 hh.2 ht
    · cases h
  · cases h
theorem applyP_fits (s : St) (r : Rec) : (applyP s r).1.log.length ≤ 1000000 ∧ Fits (applyP s r).1.log := by
  have h0 : st0.log.length ≤ 1000000 ∧ Fits st0.log := ⟨by decide, fun e he => by cases he⟩
  by_cases h : (applyP s r).2 = 0
  · have h1 := stR_iff.1 (applyP_right h)
    exact ⟨by have := h1.1; omega, fits_right h1.2⟩
  · unfold applyP at h ⊢
    split
    · rename_i hh
      rw [if_pos hh] at h
      split
      · rename_i t ht
        rw [ht] at h
        exact absurd rfl h
      · exact h0
    · exact h0
def Res11 (s : St) (r : Rec) (w11 : World) (s8 s9 : Value) (wx : World) : Prop :=
  ∃ g8 A13 n13 c13, s8 = .pointer (some ⟨g8, 0, none⟩) ∧ s9 = .int .i64 (refApplyP s r).2 ∧ wx.heap[g8]? = some (.cells #[.int .i64 (refApplyP s r).1.view, .int .i64 (refApplyP s r).1.normal, .int .i64 (refApplyP s r).1.commit, .int .i64 (refApplyP s r).1.active, .slice A13 n13 c13] 41 (0, 0)) ∧ Ty.At entryK wx (fun k => k < wx.heap.size ∧ k ≠ g8) A13 n13 c13 (refApplyP s r).1.log ∧ Chg (fun _ => False) w11 wx
set_option maxHeartbeats 4000000 in
set_option maxRecDepth 100000 in
theorem LedgerApplies_walk (w : World) (cs : Array Value) (s : St) (h : stK.K w (fun k => k < w.heap.size) s cs.toList) (cr : Array Value) (r : Rec) (hr : recK.K w (fun k => k < w.heap.size) r cr.toList) :
    Calls Try.prog 7 #[.agg cs, .agg cr] w fun e w' => e = .returned (.bool true) ∧ Below w.heap.size w w' := by
  obtain ⟨A, n, c, rfl, hl, _⟩ := st_open h
  obtain ⟨B, k, d, rfl, hl2⟩ := rec_open hr
  have HFIN := hid (fun (w' : World) (hc : Chg (fun _ => False) w w') => (show Below w.heap.size w w' from hc.below (Nat.le_refl _) (fun _ h => h.elim)))
  obtain ⟨b2, hb2⟩ : ∃ q_, q_ = w.heap.size + 1 := ⟨_, rfl⟩
  obtain ⟨w0, hw0⟩ : ∃ q_, q_ = ((w.alloc (.cells #[.int .i64 s.view, .int .i64 s.normal, .int .i64 s.commit, .int .i64 s.active, .slice A n c] 32)).alloc (.cells #[.int .i64 r.kind, .int .i64 r.a, .int .i64 r.b, .slice B k d] 62)) := ⟨_, rfl⟩
  have C0 := hid (show Chg (fun _ => False) w w0 by rw [hw0]; exact ((Chg.refl _ w).alloc _).alloc _)
  have BS := hid (show w0.heap[w.heap.size]? = some (.cells #[.int .i64 s.view, .int .i64 s.normal, .int .i64 s.commit, .int .i64 s.active, .slice A n c] 32 (0, 0)) by
    rw [hw0]
    refine blk_alloc ?_ _
    have := blk_new w (.cells #[.int .i64 s.view, .int .i64 s.normal, .int .i64 s.commit, .int .i64 s.active, .slice A n c] 32)
    simpa using this)
  have BR := hid (show w0.heap[b2]? = some (.cells #[.int .i64 r.kind, .int .i64 r.a, .int .i64 r.b, .slice B k d] 62 (0, 0)) by
    rw [hw0, hb2]
    have := blk_new (w.alloc (.cells #[.int .i64 s.view, .int .i64 s.normal, .int .i64 s.commit, .int .i64 s.active, .slice A n c] 32)) (.cells #[.int .i64 r.kind, .int .i64 r.a, .int .i64 r.b, .slice B k d] 62)
    simpa using this)
  have ne01 : w.heap.size ≠ b2 := by omega
  have ne10 : b2 ≠ w.heap.size := by omega
  have Hb2 := hid hb2
  have ltb2 : w.heap.size < b2 := by omega
  have SZ := hid (show w0.heap.size = w.heap.size + 2 by rw [hw0]; simp)
  have HL := hid (hl.chg C0.out (fun _ _ h => h))
  have HR := hid (hl2.chg C0.out (fun _ _ h => h))
  clear h hr hl hl2
  go_enter Try.func7, Try.ntmps7
  go_wp2_with fail
  rw [← hb2, ← hw0]
  clear hw0 hb2
  refine (anchor13_any w0).mono ?_
  rintro e w1 ⟨rfl, h1⟩
  have C1 := hid (show Chg (fun _ => False) w0 w1 from h1)
  replace BS := hid ((h1).blk BS.out (fun h => h))
  replace BR := hid ((h1).blk BR.out (fun h => h))
  replace HL := hid (HL.out.chg (h1) (fun _ _ h => h))
  replace HR := hid (HR.out.chg (h1) (fun _ _ h => h))
  clear h1
  have S_0 : w1.cell? ⟨w.heap.size, 0, none⟩ = some (.int .i64 s.view) := (cellAt BS.out 0).trans rfl
  have S_1 : w1.cell? ⟨w.heap.size, 1, none⟩ = some (.int .i64 s.normal) := (cellAt BS.out 1).trans rfl
  have S_2 : w1.cell? ⟨w.heap.size, 2, none⟩ = some (.int .i64 s.commit) := (cellAt BS.out 2).trans rfl
  have S_3 : w1.cell? ⟨w.heap.size, 3, none⟩ = some (.int .i64 s.active) := (cellAt BS.out 3).trans rfl
  have S_4 : w1.cell? ⟨w.heap.size, 4, none⟩ = some (.slice A n c) := (cellAt BS.out 4).trans rfl
  go_wp2_with fail
  refine (smallstate_any HL.out).mono ?_
  rintro e w2 ⟨rfl, h2⟩
  have C2 := hid (C1.out.trans h2 (fun _ h _ => h))
  clear S_0 S_1 S_2 S_3 S_4
  replace BS := hid ((h2).blk BS.out (fun h => h))
  replace BR := hid ((h2).blk BR.out (fun h => h))
  replace HL := hid (HL.out.chg (h2) (fun _ _ h => h))
  replace HR := hid (HR.out.chg (h2) (fun _ _ h => h))
  clear h2
  cases hs : smallR s.log
  · go_wp2_with fail
    go_ret
    exact ⟨rfl, HFIN.out _ (C0.out.trans C2.out (fun _ h _ => h))⟩
  have HPUT := hid (smallR_put hs)
  have hn7 : n ≤ 1000000 := by have h1 := HL.out.1; have h2 := smallR_len hs; omega
  clear hs
  have S_0 : w2.cell? ⟨w.heap.size, 0, none⟩ = some (.int .i64 s.view) := (cellAt BS.out 0).trans rfl
  have S_1 : w2.cell? ⟨w.heap.size, 1, none⟩ = some (.int .i64 s.normal) := (cellAt BS.out 1).trans rfl
  have S_2 : w2.cell? ⟨w.heap.size, 2, none⟩ = some (.int .i64 s.commit) := (cellAt BS.out 2).trans rfl
  have S_3 : w2.cell? ⟨w.heap.size, 3, none⟩ = some (.int .i64 s.active) := (cellAt BS.out 3).trans rfl
  have S_4 : w2.cell? ⟨w.heap.size, 4, none⟩ = some (.slice A n c) := (cellAt BS.out 4).trans rfl
  have R_0 : w2.cell? ⟨b2, 0, none⟩ = some (.int .i64 r.kind) := (cellAt BR.out 0).trans rfl
  have R_1 : w2.cell? ⟨b2, 1, none⟩ = some (.int .i64 r.a) := (cellAt BR.out 1).trans rfl
  have R_2 : w2.cell? ⟨b2, 2, none⟩ = some (.int .i64 r.b) := (cellAt BR.out 2).trans rfl
  have R_3 : w2.cell? ⟨b2, 3, none⟩ = some (.slice B k d) := (cellAt BR.out 3).trans rfl
  go_wp2_with fail
  refine (small_any HR.out).mono ?_
  rintro e w3 ⟨rfl, h3⟩
  have C3 := hid (C2.out.trans h3 (fun _ h _ => h))
  clear S_0 S_1 S_2 S_3 S_4 R_0 R_1 R_2 R_3
  replace BS := hid ((h3).blk BS.out (fun h => h))
  replace BR := hid ((h3).blk BR.out (fun h => h))
  replace HL := hid (HL.out.chg (h3) (fun _ _ h => h))
  replace HR := hid (HR.out.chg (h3) (fun _ _ h => h))
  clear h3
  cases hs : smallR r.log
  · go_wp2_with fail
    go_ret
    exact ⟨rfl, HFIN.out _ (C0.out.trans C3.out (fun _ h _ => h))⟩
  have HPUTR := hid (smallR_put hs)
  have hk7 : k ≤ 1000000 := by have h1 := HR.out.1; have h2 := smallR_len hs; omega
  clear hs
  have S_0 : w3.cell? ⟨w.heap.size, 0, none⟩ = some (.int .i64 s.view) := (cellAt BS.out 0).trans rfl
  have S_1 : w3.cell? ⟨w.heap.size, 1, none⟩ = some (.int .i64 s.normal) := (cellAt BS.out 1).trans rfl
  have S_2 : w3.cell? ⟨w.heap.size, 2, none⟩ = some (.int .i64 s.commit) := (cellAt BS.out 2).trans rfl
  have S_3 : w3.cell? ⟨w.heap.size, 3, none⟩ = some (.int .i64 s.active) := (cellAt BS.out 3).trans rfl
  have S_4 : w3.cell? ⟨w.heap.size, 4, none⟩ = some (.slice A n c) := (cellAt BS.out 4).trans rfl
  have R_0 : w3.cell? ⟨b2, 0, none⟩ = some (.int .i64 r.kind) := (cellAt BR.out 0).trans rfl
  have R_1 : w3.cell? ⟨b2, 1, none⟩ = some (.int .i64 r.a) := (cellAt BR.out 1).trans rfl
  have R_2 : w3.cell? ⟨b2, 2, none⟩ = some (.int .i64 r.b) := (cellAt BR.out 2).trans rfl
  have R_3 : w3.cell? ⟨b2, 3, none⟩ = some (.slice B k d) := (cellAt BR.out 3).trans rfl
  go_wp2_with fail
  refine (Apply_any HL.out HR.out).mono ?_
  rintro e w4 ⟨A4, n4, c4, rfl, hat, h4⟩
  obtain ⟨tS, htS⟩ : ∃ q_, q_ = (applyP s r).1 := ⟨_, rfl⟩
  obtain ⟨cd, hcd⟩ : ∃ q_, q_ = (applyP s r).2 := ⟨_, rfl⟩
  rw [← htS] at hat
  rw [← htS, ← hcd]
  have HTS := hid htS
  have HCD := hid hcd
  have C4 := hid (C3.out.trans h4 (fun _ h _ => h))
  clear S_0 S_1 S_2 S_3 S_4 R_0 R_1 R_2 R_3
  replace BS := hid ((h4).blk BS.out (fun h => h))
  replace BR := hid ((h4).blk BR.out (fun h => h))
  replace HL := hid (HL.out.chg (h4) (fun _ _ h => h))
  replace HR := hid (HR.out.chg (h4) (fun _ _ h => h))
  have HT := hid hat
  clear h4 hat htS hcd
  obtain ⟨w5, hw5⟩ : ∃ q_, q_ = w4.alloc (.cells #[.int .i64 tS.view, .int .i64 tS.normal, .int .i64 tS.commit, .int .i64 tS.active, .slice A4 n4 c4] 32) := ⟨_, rfl⟩
  have Dw5 := hid (show Chg (fun _ => False) w4 w5 by rw [hw5]; exact (Chg.refl _ w4).alloc _)
  replace BS := hid ((Dw5.out).blk BS.out (fun h => h))
  replace BR := hid ((Dw5.out).blk BR.out (fun h => h))
  replace HL := hid (HL.out.chg (Dw5.out) (fun _ _ h => h))
  replace HR := hid (HR.out.chg (Dw5.out) (fun _ _ h => h))
  replace HT := hid (HT.out.chg (Dw5.out) (fun _ _ h => h))
  have BT := hid (show w5.heap[w4.heap.size]? = some (.cells #[.int .i64 tS.view, .int .i64 tS.normal, .int .i64 tS.commit, .int .i64 tS.active, .slice A4 n4 c4] 32 (0, 0)) by rw [hw5]; exact blk_new w4 _)
  have hw5' := hid hw5
  clear hw5
  have C5 := hid (C4.out.trans Dw5.out (fun _ h _ => h))
  have S_0 : w5.cell? ⟨w.heap.size, 0, none⟩ = some (.int .i64 s.view) := (cellAt BS.out 0).trans rfl
  have S_1 : w5.cell? ⟨w.heap.size, 1, none⟩ = some (.int .i64 s.normal) := (cellAt BS.out 1).trans rfl
  have S_2 : w5.cell? ⟨w.heap.size, 2, none⟩ = some (.int .i64 s.commit) := (cellAt BS.out 2).trans rfl
  have S_3 : w5.cell? ⟨w.heap.size, 3, none⟩ = some (.int .i64 s.active) := (cellAt BS.out 3).trans rfl
  have S_4 : w5.cell? ⟨w.heap.size, 4, none⟩ = some (.slice A n c) := (cellAt BS.out 4).trans rfl
  go_wp2_with (first | ((with_reducible refine at_dst (N := 27) rfl ?_); rw [← hw5'.out]; clear hw5'))
  refine (madestate_any HL.out hn7 HPUT.out).mono ?_
  rintro e w6 ⟨A6, c6, rfl, hat, h6⟩
  obtain ⟨n6, hn6⟩ : ∃ q_, q_ = s.log.length := ⟨_, rfl⟩
  rw [← hn6] at hat ⊢
  have C6 := hid (C5.out.trans h6 (fun _ h _ => h))
  clear S_0 S_1 S_2 S_3 S_4
  replace BS := hid ((h6).blk BS.out (fun h => h))
  replace BR := hid ((h6).blk BR.out (fun h => h))
  replace BT := hid ((h6).blk BT.out (fun h => h))
  replace HL := hid (HL.out.chg (h6) (fun _ _ h => h))
  replace HR := hid (HR.out.chg (h6) (fun _ _ h => h))
  replace HT := hid (HT.out.chg (h6) (fun _ _ h => h))
  have HX := hid hat
  clear h6 hat hn6
  obtain ⟨w7, hw7⟩ : ∃ q_, q_ = w6.alloc (.cells #[.int .i64 s.view, .int .i64 s.normal, .int .i64 s.commit, .int .i64 s.active, .slice A6 n6 c6] 41) := ⟨_, rfl⟩
  have Dw7 := hid (show Chg (fun _ => False) w6 w7 by rw [hw7]; exact (Chg.refl _ w6).alloc _)
  replace BS := hid ((Dw7.out).blk BS.out (fun h => h))
  replace BR := hid ((Dw7.out).blk BR.out (fun h => h))
  replace BT := hid ((Dw7.out).blk BT.out (fun h => h))
  replace HL := hid (HL.out.chg (Dw7.out) (fun _ _ h => h))
  replace HR := hid (HR.out.chg (Dw7.out) (fun _ _ h => h))
  replace HT := hid (HT.out.chg (Dw7.out) (fun _ _ h => h))
  replace HX := hid (HX.out.chg (Dw7.out) (fun _ _ h => h))
  have BX := hid (show w7.heap[w6.heap.size]? = some (.cells #[.int .i64 s.view, .int .i64 s.normal, .int .i64 s.commit, .int .i64 s.active, .slice A6 n6 c6] 41 (0, 0)) by rw [hw7]; exact blk_new w6 _)
  have hw7' := hid hw7
  clear hw7
  have C7 := hid (C6.out.trans Dw7.out (fun _ h _ => h))
  go_wp2_with fail
  rw [← hw7'.out]
  clear hw7'
  have US_0 : ∀ wx, Chg (fun _ => False) w7 wx → wx.cell? ⟨w.heap.size, 0, none⟩ = some (.int .i64 s.view) := fun wx hx => (cellAt (hx.blk BS.out (fun h => h)) 0).trans rfl
  have US_1 : ∀ wx, Chg (fun _ => False) w7 wx → wx.cell? ⟨w.heap.size, 1, none⟩ = some (.int .i64 s.normal) := fun wx hx => (cellAt (hx.blk BS.out (fun h => h)) 1).trans rfl
  have US_2 : ∀ wx, Chg (fun _ => False) w7 wx → wx.cell? ⟨w.heap.size, 2, none⟩ = some (.int .i64 s.commit) := fun wx hx => (cellAt (hx.blk BS.out (fun h => h)) 2).trans rfl
  have US_3 : ∀ wx, Chg (fun _ => False) w7 wx → wx.cell? ⟨w.heap.size, 3, none⟩ = some (.int .i64 s.active) := fun wx hx => (cellAt (hx.blk BS.out (fun h => h)) 3).trans rfl
  have US_4 : ∀ wx, Chg (fun _ => False) w7 wx → wx.cell? ⟨w.heap.size, 4, none⟩ = some (.slice A n c) := fun wx hx => (cellAt (hx.blk BS.out (fun h => h)) 4).trans rfl
  have UX_0 : ∀ wx, Chg (fun _ => False) w7 wx → wx.cell? ⟨w6.heap.size, 0, none⟩ = some (.int .i64 s.view) := fun wx hx => (cellAt (hx.blk BX.out (fun h => h)) 0).trans rfl
  have UX_1 : ∀ wx, Chg (fun _ => False) w7 wx → wx.cell? ⟨w6.heap.size, 1, none⟩ = some (.int .i64 s.normal) := fun wx hx => (cellAt (hx.blk BX.out (fun h => h)) 1).trans rfl
  have UX_2 : ∀ wx, Chg (fun _ => False) w7 wx → wx.cell? ⟨w6.heap.size, 2, none⟩ = some (.int .i64 s.commit) := fun wx hx => (cellAt (hx.blk BX.out (fun h => h)) 2).trans rfl
  have UX_3 : ∀ wx, Chg (fun _ => False) w7 wx → wx.cell? ⟨w6.heap.size, 3, none⟩ = some (.int .i64 s.active) := fun wx hx => (cellAt (hx.blk BX.out (fun h => h)) 3).trans rfl
  have UX_4 : ∀ wx, Chg (fun _ => False) w7 wx → wx.cell? ⟨w6.heap.size, 4, none⟩ = some (.slice A6 n6 c6) := fun wx hx => (cellAt (hx.blk BX.out (fun h => h)) 4).trans rfl
  refine wpB_start (fun wx : World => Chg (fun _ => False) w7 wx) (by kernel_rfl) ?_
  have hHeld : (fun wx : World => Chg (fun _ => False) w7 wx) _ := (by first | assumption | exact Chg.drew (Chg.refl _ _) | (show _ ∧ _; refine ⟨?_, ?_⟩ <;> assumption) | (first | assumption | (with_reducible exact HZ2.out) | (with_reducible exact HZ.out)))
  -- 0: t29 := load 32 t2 : 32
  refine wpB_take (i := 0) (v := ?_) (get_of_drop rfl) (by kernel_rfl) (by kernel_rfl) (by kernel_rfl) (by kernel_rfl) (fun _ _ _ h => h) (Or.inl ⟨by rfl, ?_⟩) hHeld ?_
  rotate_left
  · (intro w hSw; (try dsimp only at hSw); go_simp <;> with_reducible rfl)
  try simp only [Act.put, List.setIfInBounds_toArray, List.set_cons_zero, List.set_cons_succ]
  -- 2: t31 := load 41 t7 : 41
  refine wpB_take (i := 2) (v := ?_) (get_of_drop rfl) (by kernel_rfl) (by kernel_rfl) (by kernel_rfl) (by kernel_rfl) (fun _ _ _ h => h) (Or.inl ⟨by rfl, ?_⟩) hHeld ?_
  rotate_left
  · (intro w hSw; (try dsimp only at hSw); go_simp <;> with_reducible rfl)
  try simp only [Act.put, List.setIfInBounds_toArray, List.set_cons_zero, List.set_cons_succ]
  -- 1: t30 := CALL fn25(t29) : 4
  refine wpB_act (i := 1) (by kernel_rfl) (get_of_drop rfl) (fun K hK => ?_)
  go_simp
  refine (stright_any (HL.out.chg (Chg.refl (fun _ => False) w7).drew (fun _ _ h => h))).mono ?_
  rintro e' wy ⟨rfl, hcy⟩
  have HZ := hid (show Chg (fun _ => False) w7 wy from (Chg.refl (fun _ => False) w7).drew.trans hcy (fun _ h _ => h))
  clear hcy
  refine hK.out _ _ ?_ (fun hHeld2 => ?_)
  · (first | assumption | (with_reducible exact HZ2.out) | (with_reducible exact HZ.out))
  clear hHeld hK K
  have hHeld := hHeld2
  clear hHeld2
  try simp only [Act.put, List.setIfInBounds_toArray, List.set_cons_zero, List.set_cons_succ]
  -- 3: t32 := CALL fn26(t31) : 4 (BARRIER)
  refine wpB_bar (i := 3) (by kernel_rfl) (get_of_drop rfl) (by kernel_rfl) (fun K hK => ?_)
  go_simp
  refine (refstright_any (HX.out.chg HZ.out (fun _ _ h => h))).mono ?_
  rintro e' w8 ⟨rfl, hcz⟩
  have HZ2 := hid (show Chg (fun _ => False) w7 w8 from HZ.out.trans hcz (fun _ h _ => h))
  clear hcz
  refine hK.out _ _ (fun _ : World => True) ?_
  clear hHeld hK K
  have hHeld := trivial
  try simp only [Act.put, List.setIfInBounds_toArray, List.set_cons_zero, List.set_cons_succ]
  -- 4: t33 := binOp BinOp.neq 4 t30 t32 4 : 4
  refine wpB_take (i := 4) (v := ?_) (get_of_drop rfl) (by kernel_rfl) (by kernel_rfl) (by kernel_rfl) (by kernel_rfl) (fun _ _ _ h => h) (Or.inl ⟨by rfl, ?_⟩) hHeld ?_
  rotate_left
  · (intro w hSw; (try dsimp only at hSw); go_simp <;> with_reducible rfl)
  try simp only [Act.put, List.setIfInBounds_toArray, List.set_cons_zero, List.set_cons_succ]
  refine wpB_done (by kernel_rfl) ?_ _
  clear US_0 US_1 US_2 US_3 US_4 UX_0 UX_1 UX_2 UX_3 UX_4
  replace BS := hid ((HZ2.out).blk BS.out (fun h => h))
  replace BR := hid ((HZ2.out).blk BR.out (fun h => h))
  replace BT := hid ((HZ2.out).blk BT.out (fun h => h))
  replace BX := hid ((HZ2.out).blk BX.out (fun h => h))
  replace HL := hid (HL.out.chg (HZ2.out) (fun _ _ h => h))
  replace HR := hid (HR.out.chg (HZ2.out) (fun _ _ h => h))
  replace HT := hid (HT.out.chg (HZ2.out) (fun _ _ h => h))
  replace HX := hid (HX.out.chg (HZ2.out) (fun _ _ h => h))
  have C8 := hid (C7.out.trans HZ2.out (fun _ h _ => h))
  clear hHeld
  obtain ⟨rs, hrs⟩ : ∃ q_, q_ = stR s := ⟨_, rfl⟩
  rw [← hrs]
  have HRS := hid hrs
  clear hrs
  have hxx : (rs != rs) = false := by simp
  have X_0 : w8.cell? ⟨w6.heap.size, 0, none⟩ = some (.int .i64 s.view) := (cellAt BX.out 0).trans rfl
  have X_1 : w8.cell? ⟨w6.heap.size, 1, none⟩ = some (.int .i64 s.normal) := (cellAt BX.out 1).trans rfl
  have X_2 : w8.cell? ⟨w6.heap.size, 2, none⟩ = some (.int .i64 s.commit) := (cellAt BX.out 2).trans rfl
  have X_3 : w8.cell? ⟨w6.heap.size, 3, none⟩ = some (.int .i64 s.active) := (cellAt BX.out 3).trans rfl
  have X_4 : w8.cell? ⟨w6.heap.size, 4, none⟩ = some (.slice A6 n6 c6) := (cellAt BX.out 4).trans rfl
  go_wp2_with fail
  clear hxx
  refine (refstright_any HX.out).mono ?_
  rintro e w9 ⟨rfl, h9⟩
  rw [← HRS.out]
  have C9 := hid (C8.out.trans h9 (fun _ h _ => h))
  clear X_0 X_1 X_2 X_3 X_4
  replace BS := hid ((h9).blk BS.out (fun h => h))
  replace BR := hid ((h9).blk BR.out (fun h => h))
  replace BT := hid ((h9).blk BT.out (fun h => h))
  replace BX := hid ((h9).blk BX.out (fun h => h))
  replace HL := hid (HL.out.chg (h9) (fun _ _ h => h))
  replace HR := hid (HR.out.chg (h9) (fun _ _ h => h))
  replace HT := hid (HT.out.chg (h9) (fun _ _ h => h))
  replace HX := hid (HX.out.chg (h9) (fun _ _ h => h))
  clear h9
  cases rs
  · have HP := hid (show applyP s r = (st0, 10) by unfold applyP; rw [← HRS.out]; rfl)
    have hc10 : cd = 10 := by rw [HCD.out, HP.out]
    have HT0 := hid (show tS = st0 by rw [HTS.out, HP.out])
    subst hc10
    have T_0 : w9.cell? ⟨w4.heap.size, 0, none⟩ = some (.int .i64 tS.view) := (cellAt BT.out 0).trans rfl
    have T_1 : w9.cell? ⟨w4.heap.size, 1, none⟩ = some (.int .i64 tS.normal) := (cellAt BT.out 1).trans rfl
    have T_2 : w9.cell? ⟨w4.heap.size, 2, none⟩ = some (.int .i64 tS.commit) := (cellAt BT.out 2).trans rfl
    have T_3 : w9.cell? ⟨w4.heap.size, 3, none⟩ = some (.int .i64 tS.active) := (cellAt BT.out 3).trans rfl
    have T_4 : w9.cell? ⟨w4.heap.size, 4, none⟩ = some (.slice A4 n4 c4) := (cellAt BT.out 4).trans rfl
    go_wp2_with fail
    clear T_0 T_1 T_2 T_3 T_4
    refine (same13_any (x := st0) HT.out (at_nil_ _ _ (fun _ => False)) (by have h1 := HT.out.1; rw [HT0.out] at h1; have h2 : n4 = 0 := h1; omega) (by rw [HT0.out]; intro e he; cases he)).mono ?_
    rintro e wE ⟨rfl, hE⟩
    rw [decide_eq_true HT0.out]
    have CE := hid (C9.out.trans hE (fun _ h _ => h))
    clear hE
    go_wp2_with fail
    go_ret
    exact ⟨rfl, HFIN.out _ (C0.out.trans CE.out (fun _ h _ => h))⟩
  have R_0 : w9.cell? ⟨b2, 0, none⟩ = some (.int .i64 r.kind) := (cellAt BR.out 0).trans rfl
  have R_1 : w9.cell? ⟨b2, 1, none⟩ = some (.int .i64 r.a) := (cellAt BR.out 1).trans rfl
  have R_2 : w9.cell? ⟨b2, 2, none⟩ = some (.int .i64 r.b) := (cellAt BR.out 2).trans rfl
  have R_3 : w9.cell? ⟨b2, 3, none⟩ = some (.slice B k d) := (cellAt BR.out 3).trans rfl
  go_wp2_with fail
  refine (maderec_any HR.out hk7 HPUTR.out).mono ?_
  rintro e w10 ⟨A10, c10, rfl, hat, h10⟩
  obtain ⟨n10, hn10⟩ : ∃ q_, q_ = r.log.length := ⟨_, rfl⟩
  rw [← hn10] at hat ⊢
  have C10 := hid (C9.out.trans h10 (fun _ h _ => h))
  clear R_0 R_1 R_2 R_3
  replace BS := hid ((h10).blk BS.out (fun h => h))
  replace BR := hid ((h10).blk BR.out (fun h => h))
  replace BT := hid ((h10).blk BT.out (fun h => h))
  replace BX := hid ((h10).blk BX.out (fun h => h))
  replace HL := hid (HL.out.chg (h10) (fun _ _ h => h))
  replace HR := hid (HR.out.chg (h10) (fun _ _ h => h))
  replace HT := hid (HT.out.chg (h10) (fun _ _ h => h))
  replace HX := hid (HX.out.chg (h10) (fun _ _ h => h))
  have HM := hid hat
  clear h10 hat hn10
  go_wp2_with fail
  refine (refrecright_any (m := r) HM.out).mono ?_
  rintro e w11 ⟨rfl, h11⟩
  have C11 := hid (C10.out.trans h11 (fun _ h _ => h))
  replace BS := hid ((h11).blk BS.out (fun h => h))
  replace BR := hid ((h11).blk BR.out (fun h => h))
  replace BT := hid ((h11).blk BT.out (fun h => h))
  replace BX := hid ((h11).blk BX.out (fun h => h))
  replace HL := hid (HL.out.chg (h11) (fun _ _ h => h))
  replace HR := hid (HR.out.chg (h11) (fun _ _ h => h))
  replace HT := hid (HT.out.chg (h11) (fun _ _ h => h))
  replace HX := hid (HX.out.chg (h11) (fun _ _ h => h))
  clear h11
  cases hrr : recR r
  · have HRC := hid hrr
    clear hrr
    have HP := hid (show applyP s r = (st0, 10) by unfold applyP; rw [← HRS.out, HRC.out]; rfl)
    have hc10 : cd = 10 := by rw [HCD.out, HP.out]
    have HT0 := hid (show tS = st0 by rw [HTS.out, HP.out])
    subst hc10
    have T_0 : w11.cell? ⟨w4.heap.size, 0, none⟩ = some (.int .i64 tS.view) := (cellAt BT.out 0).trans rfl
    have T_1 : w11.cell? ⟨w4.heap.size, 1, none⟩ = some (.int .i64 tS.normal) := (cellAt BT.out 1).trans rfl
    have T_2 : w11.cell? ⟨w4.heap.size, 2, none⟩ = some (.int .i64 tS.commit) := (cellAt BT.out 2).trans rfl
    have T_3 : w11.cell? ⟨w4.heap.size, 3, none⟩ = some (.int .i64 tS.active) := (cellAt BT.out 3).trans rfl
    have T_4 : w11.cell? ⟨w4.heap.size, 4, none⟩ = some (.slice A4 n4 c4) := (cellAt BT.out 4).trans rfl
    go_wp2_with fail
    clear T_0 T_1 T_2 T_3 T_4
    refine (same13_any (x := st0) HT.out (at_nil_ _ _ (fun _ => False)) (by have h1 := HT.out.1; rw [HT0.out] at h1; have h2 : n4 = 0 := h1; omega) (by rw [HT0.out]; intro e he; cases he)).mono ?_
    rintro e wE ⟨rfl, hE⟩
    rw [decide_eq_true HT0.out]
    have CE := hid (C11.out.trans hE (fun _ h _ => h))
    clear hE
    go_wp2_with fail
    go_ret
    exact ⟨rfl, HFIN.out _ (C0.out.trans CE.out (fun _ h _ => h))⟩
  have HRC := hid hrr
  clear hrr
  have HPE := hid (show applyP s r = refApplyP s r by unfold applyP refApplyP; rw [← HRS.out, HRC.out]; rfl)
  go_upto_region 11 with fail
  go_cut [8, 9] (fun s8 s9 wx => Res11 s r w11 s8 s9 wx)
  case first =>
    have UX_0 : ∀ wx, Chg (fun _ => False) w11 wx → wx.cell? ⟨w6.heap.size, 0, none⟩ = some (.int .i64 s.view) := fun wx hx => (cellAt (hx.blk BX.out (fun h => h)) 0).trans rfl
    have UX_1 : ∀ wx, Chg (fun _ => False) w11 wx → wx.cell? ⟨w6.heap.size, 1, none⟩ = some (.int .i64 s.normal) := fun wx hx => (cellAt (hx.blk BX.out (fun h => h)) 1).trans rfl
    have UX_2 : ∀ wx, Chg (fun _ => False) w11 wx → wx.cell? ⟨w6.heap.size, 2, none⟩ = some (.int .i64 s.commit) := fun wx hx => (cellAt (hx.blk BX.out (fun h => h)) 2).trans rfl
    have UX_3 : ∀ wx, Chg (fun _ => False) w11 wx → wx.cell? ⟨w6.heap.size, 3, none⟩ = some (.int .i64 s.active) := fun wx hx => (cellAt (hx.blk BX.out (fun h => h)) 3).trans rfl
    have UX_4 : ∀ wx, Chg (fun _ => False) w11 wx → wx.cell? ⟨w6.heap.size, 4, none⟩ = some (.slice A6 n6 c6) := fun wx hx => (cellAt (hx.blk BX.out (fun h => h)) 4).trans rfl
    have UR_0 : ∀ wx, Chg (fun _ => False) w11 wx → wx.cell? ⟨b2, 0, none⟩ = some (.int .i64 r.kind) := fun wx hx => (cellAt (hx.blk BR.out (fun h => h)) 0).trans rfl
    have UR_1 : ∀ wx, Chg (fun _ => False) w11 wx → wx.cell? ⟨b2, 1, none⟩ = some (.int .i64 r.a) := fun wx hx => (cellAt (hx.blk BR.out (fun h => h)) 1).trans rfl
    have UR_2 : ∀ wx, Chg (fun _ => False) w11 wx → wx.cell? ⟨b2, 2, none⟩ = some (.int .i64 r.b) := fun wx hx => (cellAt (hx.blk BR.out (fun h => h)) 2).trans rfl
    have UR_3 : ∀ wx, Chg (fun _ => False) w11 wx → wx.cell? ⟨b2, 3, none⟩ = some (.slice B k d) := fun wx hx => (cellAt (hx.blk BR.out (fun h => h)) 3).trans rfl
    refine wpB_start (fun wx : World => Chg (fun _ => False) w11 wx) (by kernel_rfl) ?_
    have hHeld : (fun wx : World => Chg (fun _ => False) w11 wx) _ := (by first | assumption | exact Chg.drew (Chg.refl _ _) | (show _ ∧ _; refine ⟨?_, ?_⟩ <;> assumption) | (first | (with_reducible exact HZ8.out) | assumption | (with_reducible exact HZ.out)))
    generalize hgd : w11.drew = wd at hHeld ⊢
    clear hgd
    -- 0: t51 := load 41 t7 : 41
    refine wpB_take (i := 0) (v := ?_) (get_of_drop rfl) (by kernel_rfl) (by kernel_rfl) (by kernel_rfl) (by kernel_rfl) (fun _ _ _ h => h) (Or.inl ⟨by rfl, ?_⟩) hHeld ?_
    rotate_left
    · (intro w hSw; (try dsimp only at hSw); go_simp <;> with_reducible rfl)
    try simp only [Act.put, List.setIfInBounds_toArray, List.set_cons_zero, List.set_cons_succ]
    -- 1: t52 := load 62 t3 : 62
    refine wpB_take (i := 1) (v := ?_) (get_of_drop rfl) (by kernel_rfl) (by kernel_rfl) (by kernel_rfl) (by kernel_rfl) (fun _ _ _ h => h) (Or.inl ⟨by rfl, ?_⟩) hHeld ?_
    rotate_left
    · (intro w hSw; (try dsimp only at hSw); go_simp <;> with_reducible rfl)
    try simp only [Act.put, List.setIfInBounds_toArray, List.set_cons_zero, List.set_cons_succ]
    refine wpB_two (i := 2) (j := 7) (by kernel_rfl) (get_of_drop rfl) (get_of_drop rfl) (fun K hK => ?_) (fun K hK => ?_)
    · -- 2: t53 := CALL fn27(t52) : 67
      go_simp
      refine (maderec_any (HR.out.bound.chg hHeld (fun _ _ h => h)) hk7 HPUTR.out).mono ?_
      rintro e' wy2 ⟨A12, c12, rfl, hat, hcy⟩
      have HM2 := hid hat.bound
      have Z2 := hid (And.intro hHeld.size hcy.size)
      have HZ := hid (show Chg (fun _ => False) w11 wy2 from hHeld.trans hcy (fun _ h _ => h))
      try replace BZ := hid (hcy.blk BZ.out (fun h => h))
      clear hcy hat
      refine hK.out _ _ ?_ (fun hHeld2 => ?_)
      · (first | (with_reducible exact HZ8.out) | assumption | (with_reducible exact HZ.out))
      clear hHeld hK K
      have hHeld := hHeld2
      clear hHeld2
      try simp only [Act.put, List.setIfInBounds_toArray, List.set_cons_zero, List.set_cons_succ]
      refine wpB_two (i := 3) (j := 7) (by kernel_rfl) (get_of_drop rfl) (get_of_drop rfl) (fun K hK => ?_) (fun K hK => ?_)
      · -- 3: t54 := CALL fn29(t51, t53) : 57
        go_simp
        refine (refApply_any (HX.out.bound.chg hHeld (fun _ _ h => h)) HM2.out HRS.out.symm HRC.out).mono ?_
        rintro e' wy3 ⟨A13, n13, c13, rfl, hat, hcy⟩
        have HY := hid hat
        have Z3 := hid (And.intro hHeld.size hcy.size)
        have HZ := hid (show Chg (fun _ => False) w11 wy3 from hHeld.trans hcy (fun _ h _ => h))
        try replace BZ := hid (hcy.blk BZ.out (fun h => h))
        clear hcy hat
        refine hK.out _ _ ?_ (fun hHeld2 => ?_)
        · (first | (with_reducible exact HZ8.out) | assumption | (with_reducible exact HZ.out))
        clear hHeld hK K
        have hHeld := hHeld2
        clear hHeld2
        try simp only [Act.put, List.setIfInBounds_toArray, List.set_cons_zero, List.set_cons_succ]
        -- 4: t50 := move t54 : 57
        refine wpB_take (i := 4) (v := ?_) (get_of_drop rfl) (by kernel_rfl) (by kernel_rfl) (by kernel_rfl) (by kernel_rfl) (fun _ _ _ h => h) (Or.inl ⟨by rfl, ?_⟩) hHeld ?_
        rotate_left
        · (intro w hSw; (try dsimp only at hSw); go_simp <;> with_reducible rfl)
        try simp only [Act.put, List.setIfInBounds_toArray, List.set_cons_zero, List.set_cons_succ]
        -- 5: t55 := extract t50 0 : 41
        refine wpB_take (i := 5) (v := ?_) (get_of_drop rfl) (by kernel_rfl) (by kernel_rfl) (by kernel_rfl) (by kernel_rfl) (fun _ _ _ h => h) (Or.inl ⟨by rfl, ?_⟩) hHeld ?_
        rotate_left
        · (intro w hSw; (try dsimp only at hSw); go_simp <;> with_reducible rfl)
        try simp only [Act.put, List.setIfInBounds_toArray, List.set_cons_zero, List.set_cons_succ]
        -- 6: t56 := extract t50 1 : 3
        refine wpB_take (i := 6) (v := ?_) (get_of_drop rfl) (by kernel_rfl) (by kernel_rfl) (by kernel_rfl) (by kernel_rfl) (fun _ _ _ h => h) (Or.inl ⟨by rfl, ?_⟩) hHeld ?_
        rotate_left
        · (intro w hSw; (try dsimp only at hSw); go_simp <;> with_reducible rfl)
        try simp only [Act.put, List.setIfInBounds_toArray, List.set_cons_zero, List.set_cons_succ]
        -- 7: t8 := alloc 41 : 0
        refine wpB_act (i := 7) (by kernel_rfl) (get_of_drop rfl) (fun K hK => ?_)
        go_simp
        have HZ7 := hid (alloc_of hHeld (.cells #[.int .i64 0, .int .i64 0, .int .i64 0, .int .i64 0, .slice none 0 0] 41))
        have HZ := hid (Chg.alloc hHeld (.cells #[.int .i64 0, .int .i64 0, .int .i64 0, .int .i64 0, .slice none 0 0] 41))
        have BZ := hid (new_of hHeld (.cells #[.int .i64 0, .int .i64 0, .int .i64 0, .int .i64 0, .slice none 0 0] 41))
        have Z7 := hid (size_of hHeld (.cells #[.int .i64 0, .int .i64 0, .int .i64 0, .int .i64 0, .slice none 0 0] 41))
        first
          | (obtain ⟨g8, hg8⟩ : ∃ q_, q_ = wy3.heap.size := ⟨_, rfl⟩; rw [← hg8] at BZ Z7 ⊢; generalize hgz : World.alloc wy3 (.cells #[.int .i64 0, .int .i64 0, .int .i64 0, .int .i64 0, .slice none 0 0] 41) = wz at HZ7 HZ BZ Z7 ⊢)
          | (obtain ⟨g8, hg8⟩ : ∃ q_, q_ = wy2.heap.size := ⟨_, rfl⟩; rw [← hg8] at BZ Z7 ⊢; generalize hgz : World.alloc wy2 (.cells #[.int .i64 0, .int .i64 0, .int .i64 0, .int .i64 0, .slice none 0 0] 41) = wz at HZ7 HZ BZ Z7 ⊢)
          | (obtain ⟨g8, hg8⟩ : ∃ q_, q_ = wd.heap.size := ⟨_, rfl⟩; rw [← hg8] at BZ Z7 ⊢; generalize hgz : World.alloc wd (.cells #[.int .i64 0, .int .i64 0, .int .i64 0, .int .i64 0, .slice none 0 0] 41) = wz at HZ7 HZ BZ Z7 ⊢)
        have HG8 := hid hg8
        clear hgz hg8
        try replace HM2 := hid (HM2.out.chg HZ7.out (fun _ _ h => h))
        try replace HY := hid (HY.out.chg HZ7.out (fun _ _ h => h))
        refine hK.out _ _ ?_ (fun hHeld2 => ?_)
        · (first | (with_reducible exact HZ8.out) | assumption | (with_reducible exact HZ.out))
        clear hHeld hK K
        have hHeld := hHeld2
        clear hHeld2
        try simp only [Act.put, List.setIfInBounds_toArray, List.set_cons_zero, List.set_cons_succ]
        -- 8: t- := store 41 t8 t55 : 0
        refine wpB_act (i := 8) (by kernel_rfl) (get_of_drop rfl) (fun K hK => ?_)
        have yz0 := cell_is BZ.out 0 (.int .i64 0) rfl; have fz0 := freeAt BZ.out 0
        have yz1 := cell_is BZ.out 1 (.int .i64 0) rfl; have fz1 := freeAt BZ.out 1
        have yz2 := cell_is BZ.out 2 (.int .i64 0) rfl; have fz2 := freeAt BZ.out 2
        have yz3 := cell_is BZ.out 3 (.int .i64 0) rfl; have fz3 := freeAt BZ.out 3
        have yz4 := cell_is BZ.out 4 (.slice none 0 0) rfl; have fz4 := freeAt BZ.out 4
        go_simp
        first
          | (have hq : Chg (fun _ => False) w11 wz := hHeld; obtain ⟨PB, PC⟩ := put_blk [(.int .i64 (refApplyP s r).1.view : Value), .int .i64 (refApplyP s r).1.normal, .int .i64 (refApplyP s r).1.commit, .int .i64 (refApplyP s r).1.active, .slice A13 n13 c13] wz _ BZ.out rfl; generalize hgw : (((((wz.setCell ⟨g8, 0, none⟩ (.int .i64 (refApplyP s r).1.view)).setCell ⟨g8, 1, none⟩ (.int .i64 (refApplyP s r).1.normal)).setCell ⟨g8, 2, none⟩ (.int .i64 (refApplyP s r).1.commit)).setCell ⟨g8, 3, none⟩ (.int .i64 (refApplyP s r).1.active)).setCell ⟨g8, 4, none⟩ (.slice A13 n13 c13)) = w8 at ⊢; have PB2 := hid (show w8.heap[g8]? = some (.cells #[.int .i64 (refApplyP s r).1.view, .int .i64 (refApplyP s r).1.normal, .int .i64 (refApplyP s r).1.commit, .int .i64 (refApplyP s r).1.active, .slice A13 n13 c13] 41 (0, 0)) by rw [← hgw]; exact PB); have PC2 := hid (show Chg (fun k => k = g8) wz w8 by rw [← hgw]; exact PC); have HZ8 := hid (show Chg (fun _ => False) w11 w8 from hq.trans PC2.out (fun j hj hl => by have z := Z7.out; omega)); have HYX := hid (show Ty.At entryK w8 (fun j => j < w8.heap.size ∧ j ≠ g8) A13 n13 c13 (refApplyP s r).1.log from (HY.out.bound.chg PC2.out (fun j hj e => by dsimp only at hj; have z2 := Z2.out; have z3 := Z3.out; have z7 := Z7.out; have z9 := HG8.out; omega)).mono (fun j hj => ⟨Nat.lt_of_lt_of_le hj.2 PC2.out.size, fun e => by dsimp only at hj; have z2 := Z2.out; have z3 := Z3.out; have z7 := Z7.out; have z9 := HG8.out; omega⟩)))
          | (have hq : Chg (fun _ => False) w11 wy3 := hHeld; obtain ⟨PB, PC⟩ := put_blk [(.int .i64 (refApplyP s r).1.view : Value), .int .i64 (refApplyP s r).1.normal, .int .i64 (refApplyP s r).1.commit, .int .i64 (refApplyP s r).1.active, .slice A13 n13 c13] wy3 _ BZ.out rfl; generalize hgw : (((((wy3.setCell ⟨g8, 0, none⟩ (.int .i64 (refApplyP s r).1.view)).setCell ⟨g8, 1, none⟩ (.int .i64 (refApplyP s r).1.normal)).setCell ⟨g8, 2, none⟩ (.int .i64 (refApplyP s r).1.commit)).setCell ⟨g8, 3, none⟩ (.int .i64 (refApplyP s r).1.active)).setCell ⟨g8, 4, none⟩ (.slice A13 n13 c13)) = w8 at ⊢; have PB2 := hid (show w8.heap[g8]? = some (.cells #[.int .i64 (refApplyP s r).1.view, .int .i64 (refApplyP s r).1.normal, .int .i64 (refApplyP s r).1.commit, .int .i64 (refApplyP s r).1.active, .slice A13 n13 c13] 41 (0, 0)) by rw [← hgw]; exact PB); have PC2 := hid (show Chg (fun k => k = g8) wy3 w8 by rw [← hgw]; exact PC); have HZ8 := hid (show Chg (fun _ => False) w11 w8 from hq.trans PC2.out (fun j hj hl => by have z := Z7.out; omega)); have HYX := hid (show Ty.At entryK w8 (fun j => j < w8.heap.size ∧ j ≠ g8) A13 n13 c13 (refApplyP s r).1.log from (HY.out.bound.chg PC2.out (fun j hj e => by dsimp only at hj; have z2 := Z2.out; have z3 := Z3.out; have z7 := Z7.out; have z9 := HG8.out; omega)).mono (fun j hj => ⟨Nat.lt_of_lt_of_le hj.2 PC2.out.size, fun e => by dsimp only at hj; have z2 := Z2.out; have z3 := Z3.out; have z7 := Z7.out; have z9 := HG8.out; omega⟩)))
        refine hK.out _ _ ?_ (fun hHeld2 => ?_)
        · (first | (with_reducible exact HZ8.out) | assumption | (with_reducible exact HZ.out))
        clear hHeld hK K
        have hHeld := hHeld2
        clear hHeld2
        try simp only [Act.put, List.setIfInBounds_toArray, List.set_cons_zero, List.set_cons_succ]
        -- 9: t9 := assign t56 : 3
        refine wpB_take (i := 9) (v := ?_) (get_of_drop rfl) (by kernel_rfl) (by kernel_rfl) (by kernel_rfl) (by kernel_rfl) (fun _ _ _ h => h) (Or.inl ⟨by rfl, ?_⟩) hHeld ?_
        rotate_left
        · (intro w hSw; (try dsimp only at hSw); go_simp <;> with_reducible rfl)
        try simp only [Act.put, List.setIfInBounds_toArray, List.set_cons_zero, List.set_cons_succ]
        refine wpB_done (by kernel_rfl) ?_ _
        clear hHeld
        go_wp2_with fail
        go_meet
        exact ⟨g8, A13, n13, c13, rfl, rfl, PB2.out, HYX.out, HZ8.out⟩
      · -- 7: t8 := alloc 41 : 0
        go_simp
        have HZ7 := hid (alloc_of hHeld (.cells #[.int .i64 0, .int .i64 0, .int .i64 0, .int .i64 0, .slice none 0 0] 41))
        have HZ := hid (Chg.alloc hHeld (.cells #[.int .i64 0, .int .i64 0, .int .i64 0, .int .i64 0, .slice none 0 0] 41))
        have BZ := hid (new_of hHeld (.cells #[.int .i64 0, .int .i64 0, .int .i64 0, .int .i64 0, .slice none 0 0] 41))
        have Z7 := hid (size_of hHeld (.cells #[.int .i64 0, .int .i64 0, .int .i64 0, .int .i64 0, .slice none 0 0] 41))
        first
          | (obtain ⟨g8, hg8⟩ : ∃ q_, q_ = wy3.heap.size := ⟨_, rfl⟩; rw [← hg8] at BZ Z7 ⊢; generalize hgz : World.alloc wy3 (.cells #[.int .i64 0, .int .i64 0, .int .i64 0, .int .i64 0, .slice none 0 0] 41) = wz at HZ7 HZ BZ Z7 ⊢)
          | (obtain ⟨g8, hg8⟩ : ∃ q_, q_ = wy2.heap.size := ⟨_, rfl⟩; rw [← hg8] at BZ Z7 ⊢; generalize hgz : World.alloc wy2 (.cells #[.int .i64 0, .int .i64 0, .int .i64 0, .int .i64 0, .slice none 0 0] 41) = wz at HZ7 HZ BZ Z7 ⊢)
          | (obtain ⟨g8, hg8⟩ : ∃ q_, q_ = wd.heap.size := ⟨_, rfl⟩; rw [← hg8] at BZ Z7 ⊢; generalize hgz : World.alloc wd (.cells #[.int .i64 0, .int .i64 0, .int .i64 0, .int .i64 0, .slice none 0 0] 41) = wz at HZ7 HZ BZ Z7 ⊢)
        have HG8 := hid hg8
        clear hgz hg8
        try replace HM2 := hid (HM2.out.chg HZ7.out (fun _ _ h => h))
        try replace HY := hid (HY.out.chg HZ7.out (fun _ _ h => h))
        refine hK.out _ _ ?_ (fun hHeld2 => ?_)
        · (first | (with_reducible exact HZ8.out) | assumption | (with_reducible exact HZ.out))
        clear hHeld hK K
        have hHeld := hHeld2
        clear hHeld2
        try simp only [Act.put, List.setIfInBounds_toArray, List.set_cons_zero, List.set_cons_succ]
        -- 3: t54 := CALL fn29(t51, t53) : 57
        refine wpB_act (i := 3) (by kernel_rfl) (get_of_drop rfl) (fun K hK => ?_)
        go_simp
        refine (refApply_any (HX.out.bound.chg hHeld (fun _ _ h => h)) HM2.out HRS.out.symm HRC.out).mono ?_
        rintro e' wy3 ⟨A13, n13, c13, rfl, hat, hcy⟩
        have HY := hid hat
        have Z3 := hid (And.intro hHeld.size hcy.size)
        have HZ := hid (show Chg (fun _ => False) w11 wy3 from hHeld.trans hcy (fun _ h _ => h))
        try replace BZ := hid (hcy.blk BZ.out (fun h => h))
        clear hcy hat
        refine hK.out _ _ ?_ (fun hHeld2 => ?_)
        · (first | (with_reducible exact HZ8.out) | assumption | (with_reducible exact HZ.out))
        clear hHeld hK K
        have hHeld := hHeld2
        clear hHeld2
        try simp only [Act.put, List.setIfInBounds_toArray, List.set_cons_zero, List.set_cons_succ]
        -- 4: t50 := move t54 : 57
        refine wpB_take (i := 4) (v := ?_) (get_of_drop rfl) (by kernel_rfl) (by kernel_rfl) (by kernel_rfl) (by kernel_rfl) (fun _ _ _ h => h) (Or.inl ⟨by rfl, ?_⟩) hHeld ?_
        rotate_left
        · (intro w hSw; (try dsimp only at hSw); go_simp <;> with_reducible rfl)
        try simp only [Act.put, List.setIfInBounds_toArray, List.set_cons_zero, List.set_cons_succ]
        -- 5: t55 := extract t50 0 : 41
        refine wpB_take (i := 5) (v := ?_) (get_of_drop rfl) (by kernel_rfl) (by kernel_rfl) (by kernel_rfl) (by kernel_rfl) (fun _ _ _ h => h) (Or.inl ⟨by rfl, ?_⟩) hHeld ?_
        rotate_left
        · (intro w hSw; (try dsimp only at hSw); go_simp <;> with_reducible rfl)
        try simp only [Act.put, List.setIfInBounds_toArray, List.set_cons_zero, List.set_cons_succ]
        -- 6: t56 := extract t50 1 : 3
        refine wpB_take (i := 6) (v := ?_) (get_of_drop rfl) (by kernel_rfl) (by kernel_rfl) (by kernel_rfl) (by kernel_rfl) (fun _ _ _ h => h) (Or.inl ⟨by rfl, ?_⟩) hHeld ?_
        rotate_left
        · (intro w hSw; (try dsimp only at hSw); go_simp <;> with_reducible rfl)
        try simp only [Act.put, List.setIfInBounds_toArray, List.set_cons_zero, List.set_cons_succ]
        -- 8: t- := store 41 t8 t55 : 0
        refine wpB_act (i := 8) (by kernel_rfl) (get_of_drop rfl) (fun K hK => ?_)
        have yz0 := cell_is BZ.out 0 (.int .i64 0) rfl; have fz0 := freeAt BZ.out 0
        have yz1 := cell_is BZ.out 1 (.int .i64 0) rfl; have fz1 := freeAt BZ.out 1
        have yz2 := cell_is BZ.out 2 (.int .i64 0) rfl; have fz2 := freeAt BZ.out 2
        have yz3 := cell_is BZ.out 3 (.int .i64 0) rfl; have fz3 := freeAt BZ.out 3
        have yz4 := cell_is BZ.out 4 (.slice none 0 0) rfl; have fz4 := freeAt BZ.out 4
        go_simp
        first
          | (have hq : Chg (fun _ => False) w11 wz := hHeld; obtain ⟨PB, PC⟩ := put_blk [(.int .i64 (refApplyP s r).1.view : Value), .int .i64 (refApplyP s r).1.normal, .int .i64 (refApplyP s r).1.commit, .int .i64 (refApplyP s r).1.active, .slice A13 n13 c13] wz _ BZ.out rfl; generalize hgw : (((((wz.setCell ⟨g8, 0, none⟩ (.int .i64 (refApplyP s r).1.view)).setCell ⟨g8, 1, none⟩ (.int .i64 (refApplyP s r).1.normal)).setCell ⟨g8, 2, none⟩ (.int .i64 (refApplyP s r).1.commit)).setCell ⟨g8, 3, none⟩ (.int .i64 (refApplyP s r).1.active)).setCell ⟨g8, 4, none⟩ (.slice A13 n13 c13)) = w8 at ⊢; have PB2 := hid (show w8.heap[g8]? = some (.cells #[.int .i64 (refApplyP s r).1.view, .int .i64 (refApplyP s r).1.normal, .int .i64 (refApplyP s r).1.commit, .int .i64 (refApplyP s r).1.active, .slice A13 n13 c13] 41 (0, 0)) by rw [← hgw]; exact PB); have PC2 := hid (show Chg (fun k => k = g8) wz w8 by rw [← hgw]; exact PC); have HZ8 := hid (show Chg (fun _ => False) w11 w8 from hq.trans PC2.out (fun j hj hl => by have z := Z7.out; omega)); have HYX := hid (show Ty.At entryK w8 (fun j => j < w8.heap.size ∧ j ≠ g8) A13 n13 c13 (refApplyP s r).1.log from (HY.out.bound.chg PC2.out (fun j hj e => by dsimp only at hj; have z2 := Z2.out; have z3 := Z3.out; have z7 := Z7.out; have z9 := HG8.out; omega)).mono (fun j hj => ⟨Nat.lt_of_lt_of_le hj.2 PC2.out.size, fun e => by dsimp only at hj; have z2 := Z2.out; have z3 := Z3.out; have z7 := Z7.out; have z9 := HG8.out; omega⟩)))
          | (have hq : Chg (fun _ => False) w11 wy3 := hHeld; obtain ⟨PB, PC⟩ := put_blk [(.int .i64 (refApplyP s r).1.view : Value), .int .i64 (refApplyP s r).1.normal, .int .i64 (refApplyP s r).1.commit, .int .i64 (refApplyP s r).1.active, .slice A13 n13 c13] wy3 _ BZ.out rfl; generalize hgw : (((((wy3.setCell ⟨g8, 0, none⟩ (.int .i64 (refApplyP s r).1.view)).setCell ⟨g8, 1, none⟩ (.int .i64 (refApplyP s r).1.normal)).setCell ⟨g8, 2, none⟩ (.int .i64 (refApplyP s r).1.commit)).setCell ⟨g8, 3, none⟩ (.int .i64 (refApplyP s r).1.active)).setCell ⟨g8, 4, none⟩ (.slice A13 n13 c13)) = w8 at ⊢; have PB2 := hid (show w8.heap[g8]? = some (.cells #[.int .i64 (refApplyP s r).1.view, .int .i64 (refApplyP s r).1.normal, .int .i64 (refApplyP s r).1.commit, .int .i64 (refApplyP s r).1.active, .slice A13 n13 c13] 41 (0, 0)) by rw [← hgw]; exact PB); have PC2 := hid (show Chg (fun k => k = g8) wy3 w8 by rw [← hgw]; exact PC); have HZ8 := hid (show Chg (fun _ => False) w11 w8 from hq.trans PC2.out (fun j hj hl => by have z := Z7.out; omega)); have HYX := hid (show Ty.At entryK w8 (fun j => j < w8.heap.size ∧ j ≠ g8) A13 n13 c13 (refApplyP s r).1.log from (HY.out.bound.chg PC2.out (fun j hj e => by dsimp only at hj; have z2 := Z2.out; have z3 := Z3.out; have z7 := Z7.out; have z9 := HG8.out; omega)).mono (fun j hj => ⟨Nat.lt_of_lt_of_le hj.2 PC2.out.size, fun e => by dsimp only at hj; have z2 := Z2.out; have z3 := Z3.out; have z7 := Z7.out; have z9 := HG8.out; omega⟩)))
        refine hK.out _ _ ?_ (fun hHeld2 => ?_)
        · (first | (with_reducible exact HZ8.out) | assumption | (with_reducible exact HZ.out))
        clear hHeld hK K
        have hHeld := hHeld2
        clear hHeld2
        try simp only [Act.put, List.setIfInBounds_toArray, List.set_cons_zero, List.set_cons_succ]
        -- 9: t9 := assign t56 : 3
        refine wpB_take (i := 9) (v := ?_) (get_of_drop rfl) (by kernel_rfl) (by kernel_rfl) (by kernel_rfl) (by kernel_rfl) (fun _ _ _ h => h) (Or.inl ⟨by rfl, ?_⟩) hHeld ?_
        rotate_left
        · (intro w hSw; (try dsimp only at hSw); go_simp <;> with_reducible rfl)
        try simp only [Act.put, List.setIfInBounds_toArray, List.set_cons_zero, List.set_cons_succ]
        refine wpB_done (by kernel_rfl) ?_ _
        clear hHeld
        go_wp2_with fail
        go_meet
        exact ⟨g8, A13, n13, c13, rfl, rfl, PB2.out, HYX.out, HZ8.out⟩
    · -- 7: t8 := alloc 41 : 0
      go_simp
      have HZ7 := hid (alloc_of hHeld (.cells #[.int .i64 0, .int .i64 0, .int .i64 0, .int .i64 0, .slice none 0 0] 41))
      have HZ := hid (Chg.alloc hHeld (.cells #[.int .i64 0, .int .i64 0, .int .i64 0, .int .i64 0, .slice none 0 0] 41))
      have BZ := hid (new_of hHeld (.cells #[.int .i64 0, .int .i64 0, .int .i64 0, .int .i64 0, .slice none 0 0] 41))
      have Z7 := hid (size_of hHeld (.cells #[.int .i64 0, .int .i64 0, .int .i64 0, .int .i64 0, .slice none 0 0] 41))
      first
        | (obtain ⟨g8, hg8⟩ : ∃ q_, q_ = wy3.heap.size := ⟨_, rfl⟩; rw [← hg8] at BZ Z7 ⊢; generalize hgz : World.alloc wy3 (.cells #[.int .i64 0, .int .i64 0, .int .i64 0, .int .i64 0, .slice none 0 0] 41) = wz at HZ7 HZ BZ Z7 ⊢)
        | (obtain ⟨g8, hg8⟩ : ∃ q_, q_ = wy2.heap.size := ⟨_, rfl⟩; rw [← hg8] at BZ Z7 ⊢; generalize hgz : World.alloc wy2 (.cells #[.int .i64 0, .int .i64 0, .int .i64 0, .int .i64 0, .slice none 0 0] 41) = wz at HZ7 HZ BZ Z7 ⊢)
        | (obtain ⟨g8, hg8⟩ : ∃ q_, q_ = wd.heap.size := ⟨_, rfl⟩; rw [← hg8] at BZ Z7 ⊢; generalize hgz : World.alloc wd (.cells #[.int .i64 0, .int .i64 0, .int .i64 0, .int .i64 0, .slice none 0 0] 41) = wz at HZ7 HZ BZ Z7 ⊢)
      have HG8 := hid hg8
      clear hgz hg8
      try replace HM2 := hid (HM2.out.chg HZ7.out (fun _ _ h => h))
      try replace HY := hid (HY.out.chg HZ7.out (fun _ _ h => h))
      refine hK.out _ _ ?_ (fun hHeld2 => ?_)
      · (first | (with_reducible exact HZ8.out) | assumption | (with_reducible exact HZ.out))
      clear hHeld hK K
      have hHeld := hHeld2
      clear hHeld2
      try simp only [Act.put, List.setIfInBounds_toArray, List.set_cons_zero, List.set_cons_succ]
      -- 2: t53 := CALL fn27(t52) : 67
      refine wpB_act (i := 2) (by kernel_rfl) (get_of_drop rfl) (fun K hK => ?_)
      go_simp
      refine (maderec_any (HR.out.bound.chg hHeld (fun _ _ h => h)) hk7 HPUTR.out).mono ?_
      rintro e' wy2 ⟨A12, c12, rfl, hat, hcy⟩
      have HM2 := hid hat.bound
      have Z2 := hid (And.intro hHeld.size hcy.size)
      have HZ := hid (show Chg (fun _ => False) w11 wy2 from hHeld.trans hcy (fun _ h _ => h))
      try replace BZ := hid (hcy.blk BZ.out (fun h => h))
      clear hcy hat
      refine hK.out _ _ ?_ (fun hHeld2 => ?_)
      · (first | (with_reducible exact HZ8.out) | assumption | (with_reducible exact HZ.out))
      clear hHeld hK K
      have hHeld := hHeld2
      clear hHeld2
      try simp only [Act.put, List.setIfInBounds_toArray, List.set_cons_zero, List.set_cons_succ]
      -- 3: t54 := CALL fn29(t51, t53) : 57
      refine wpB_act (i := 3) (by kernel_rfl) (get_of_drop rfl) (fun K hK => ?_)
      go_simp
      refine (refApply_any (HX.out.bound.chg hHeld (fun _ _ h => h)) HM2.out HRS.out.symm HRC.out).mono ?_
      rintro e' wy3 ⟨A13, n13, c13, rfl, hat, hcy⟩
      have HY := hid hat
      have Z3 := hid (And.intro hHeld.size hcy.size)
      have HZ := hid (show Chg (fun _ => False) w11 wy3 from hHeld.trans hcy (fun _ h _ => h))
      try replace BZ := hid (hcy.blk BZ.out (fun h => h))
      clear hcy hat
      refine hK.out _ _ ?_ (fun hHeld2 => ?_)
      · (first | (with_reducible exact HZ8.out) | assumption | (with_reducible exact HZ.out))
      clear hHeld hK K
      have hHeld := hHeld2
      clear hHeld2
      try simp only [Act.put, List.setIfInBounds_toArray, List.set_cons_zero, List.set_cons_succ]
      -- 4: t50 := move t54 : 57
      refine wpB_take (i := 4) (v := ?_) (get_of_drop rfl) (by kernel_rfl) (by kernel_rfl) (by kernel_rfl) (by kernel_rfl) (fun _ _ _ h => h) (Or.inl ⟨by rfl, ?_⟩) hHeld ?_
      rotate_left
      · (intro w hSw; (try dsimp only at hSw); go_simp <;> with_reducible rfl)
      try simp only [Act.put, List.setIfInBounds_toArray, List.set_cons_zero, List.set_cons_succ]
      -- 5: t55 := extract t50 0 : 41
      refine wpB_take (i := 5) (v := ?_) (get_of_drop rfl) (by kernel_rfl) (by kernel_rfl) (by kernel_rfl) (by kernel_rfl) (fun _ _ _ h => h) (Or.inl ⟨by rfl, ?_⟩) hHeld ?_
      rotate_left
      · (intro w hSw; (try dsimp only at hSw); go_simp <;> with_reducible rfl)
      try simp only [Act.put, List.setIfInBounds_toArray, List.set_cons_zero, List.set_cons_succ]
      -- 6: t56 := extract t50 1 : 3
      refine wpB_take (i := 6) (v := ?_) (get_of_drop rfl) (by kernel_rfl) (by kernel_rfl) (by kernel_rfl) (by kernel_rfl) (fun _ _ _ h => h) (Or.inl ⟨by rfl, ?_⟩) hHeld ?_
      rotate_left
      · (intro w hSw; (try dsimp only at hSw); go_simp <;> with_reducible rfl)
      try simp only [Act.put, List.setIfInBounds_toArray, List.set_cons_zero, List.set_cons_succ]
      -- 8: t- := store 41 t8 t55 : 0
      refine wpB_act (i := 8) (by kernel_rfl) (get_of_drop rfl) (fun K hK => ?_)
      have yz0 := cell_is BZ.out 0 (.int .i64 0) rfl; have fz0 := freeAt BZ.out 0
      have yz1 := cell_is BZ.out 1 (.int .i64 0) rfl; have fz1 := freeAt BZ.out 1
      have yz2 := cell_is BZ.out 2 (.int .i64 0) rfl; have fz2 := freeAt BZ.out 2
      have yz3 := cell_is BZ.out 3 (.int .i64 0) rfl; have fz3 := freeAt BZ.out 3
      have yz4 := cell_is BZ.out 4 (.slice none 0 0) rfl; have fz4 := freeAt BZ.out 4
      go_simp
      first
        | (have hq : Chg (fun _ => False) w11 wz := hHeld; obtain ⟨PB, PC⟩ := put_blk [(.int .i64 (refApplyP s r).1.view : Value), .int .i64 (refApplyP s r).1.normal, .int .i64 (refApplyP s r).1.commit, .int .i64 (refApplyP s r).1.active, .slice A13 n13 c13] wz _ BZ.out rfl; generalize hgw : (((((wz.setCell ⟨g8, 0, none⟩ (.int .i64 (refApplyP s r).1.view)).setCell ⟨g8, 1, none⟩ (.int .i64 (refApplyP s r).1.normal)).setCell ⟨g8, 2, none⟩ (.int .i64 (refApplyP s r).1.commit)).setCell ⟨g8, 3, none⟩ (.int .i64 (refApplyP s r).1.active)).setCell ⟨g8, 4, none⟩ (.slice A13 n13 c13)) = w8 at ⊢; have PB2 := hid (show w8.heap[g8]? = some (.cells #[.int .i64 (refApplyP s r).1.view, .int .i64 (refApplyP s r).1.normal, .int .i64 (refApplyP s r).1.commit, .int .i64 (refApplyP s r).1.active, .slice A13 n13 c13] 41 (0, 0)) by rw [← hgw]; exact PB); have PC2 := hid (show Chg (fun k => k = g8) wz w8 by rw [← hgw]; exact PC); have HZ8 := hid (show Chg (fun _ => False) w11 w8 from hq.trans PC2.out (fun j hj hl => by have z := Z7.out; omega)); have HYX := hid (show Ty.At entryK w8 (fun j => j < w8.heap.size ∧ j ≠ g8) A13 n13 c13 (refApplyP s r).1.log from (HY.out.bound.chg PC2.out (fun j hj e => by dsimp only at hj; have z2 := Z2.out; have z3 := Z3.out; have z7 := Z7.out; have z9 := HG8.out; omega)).mono (fun j hj => ⟨Nat.lt_of_lt_of_le hj.2 PC2.out.size, fun e => by dsimp only at hj; have z2 := Z2.out; have z3 := Z3.out; have z7 := Z7.out; have z9 := HG8.out; omega⟩)))
        | (have hq : Chg (fun _ => False) w11 wy3 := hHeld; obtain ⟨PB, PC⟩ := put_blk [(.int .i64 (refApplyP s r).1.view : Value), .int .i64 (refApplyP s r).1.normal, .int .i64 (refApplyP s r).1.commit, .int .i64 (refApplyP s r).1.active, .slice A13 n13 c13] wy3 _ BZ.out rfl; generalize hgw : (((((wy3.setCell ⟨g8, 0, none⟩ (.int .i64 (refApplyP s r).1.view)).setCell ⟨g8, 1, none⟩ (.int .i64 (refApplyP s r).1.normal)).setCell ⟨g8, 2, none⟩ (.int .i64 (refApplyP s r).1.commit)).setCell ⟨g8, 3, none⟩ (.int .i64 (refApplyP s r).1.active)).setCell ⟨g8, 4, none⟩ (.slice A13 n13 c13)) = w8 at ⊢; have PB2 := hid (show w8.heap[g8]? = some (.cells #[.int .i64 (refApplyP s r).1.view, .int .i64 (refApplyP s r).1.normal, .int .i64 (refApplyP s r).1.commit, .int .i64 (refApplyP s r).1.active, .slice A13 n13 c13] 41 (0, 0)) by rw [← hgw]; exact PB); have PC2 := hid (show Chg (fun k => k = g8) wy3 w8 by rw [← hgw]; exact PC); have HZ8 := hid (show Chg (fun _ => False) w11 w8 from hq.trans PC2.out (fun j hj hl => by have z := Z7.out; omega)); have HYX := hid (show Ty.At entryK w8 (fun j => j < w8.heap.size ∧ j ≠ g8) A13 n13 c13 (refApplyP s r).1.log from (HY.out.bound.chg PC2.out (fun j hj e => by dsimp only at hj; have z2 := Z2.out; have z3 := Z3.out; have z7 := Z7.out; have z9 := HG8.out; omega)).mono (fun j hj => ⟨Nat.lt_of_lt_of_le hj.2 PC2.out.size, fun e => by dsimp only at hj; have z2 := Z2.out; have z3 := Z3.out; have z7 := Z7.out; have z9 := HG8.out; omega⟩)))
      refine hK.out _ _ ?_ (fun hHeld2 => ?_)
      · (first | (with_reducible exact HZ8.out) | assumption | (with_reducible exact HZ.out))
      clear hHeld hK K
      have hHeld := hHeld2
      clear hHeld2
      try simp only [Act.put, List.setIfInBounds_toArray, List.set_cons_zero, List.set_cons_succ]
      -- 9: t9 := assign t56 : 3
      refine wpB_take (i := 9) (v := ?_) (get_of_drop rfl) (by kernel_rfl) (by kernel_rfl) (by kernel_rfl) (by kernel_rfl) (fun _ _ _ h => h) (Or.inl ⟨by rfl, ?_⟩) hHeld ?_
      rotate_left
      · (intro w hSw; (try dsimp only at hSw); go_simp <;> with_reducible rfl)
      try simp only [Act.put, List.setIfInBounds_toArray, List.set_cons_zero, List.set_cons_succ]
      refine wpB_done (by kernel_rfl) ?_ _
      clear hHeld
      go_wp2_with fail
      go_meet
      exact ⟨g8, A13, n13, c13, rfl, rfl, PB2.out, HYX.out, HZ8.out⟩
  case rest =>
  obtain ⟨g8, A13, n13, c13, rfl, rfl, hb8, hy, hc⟩ := hcut
  revert wc
  intro w12 hb8 hy hc
  rw [← HPE.out, ← HTS.out] at hb8 hy
  rw [← HPE.out, ← HCD.out]
  have C12 := hid (C11.out.trans hc (fun _ h _ => h))
  have BY := hid hb8
  have HYF := hid hy
  replace BT := hid ((hc).blk BT.out (fun h => h))
  replace HL := hid (HL.out.chg (hc) (fun _ _ h => h))
  replace HR := hid (HR.out.chg (hc) (fun _ _ h => h))
  replace HT := hid (HT.out.chg (hc) (fun _ _ h => h))
  replace HX := hid (HX.out.chg (hc) (fun _ _ h => h))
  clear hb8 hy hc
  have T_0 : w12.cell? ⟨w4.heap.size, 0, none⟩ = some (.int .i64 tS.view) := (cellAt BT.out 0).trans rfl
  have T_1 : w12.cell? ⟨w4.heap.size, 1, none⟩ = some (.int .i64 tS.normal) := (cellAt BT.out 1).trans rfl
  have T_2 : w12.cell? ⟨w4.heap.size, 2, none⟩ = some (.int .i64 tS.commit) := (cellAt BT.out 2).trans rfl
  have T_3 : w12.cell? ⟨w4.heap.size, 3, none⟩ = some (.int .i64 tS.active) := (cellAt BT.out 3).trans rfl
  have T_4 : w12.cell? ⟨w4.heap.size, 4, none⟩ = some (.slice A4 n4 c4) := (cellAt BT.out 4).trans rfl
  have Y_0 : w12.cell? ⟨g8, 0, none⟩ = some (.int .i64 tS.view) := (cellAt BY.out 0).trans rfl
  have Y_1 : w12.cell? ⟨g8, 1, none⟩ = some (.int .i64 tS.normal) := (cellAt BY.out 1).trans rfl
  have Y_2 : w12.cell? ⟨g8, 2, none⟩ = some (.int .i64 tS.commit) := (cellAt BY.out 2).trans rfl
  have Y_3 : w12.cell? ⟨g8, 3, none⟩ = some (.int .i64 tS.active) := (cellAt BY.out 3).trans rfl
  have Y_4 : w12.cell? ⟨g8, 4, none⟩ = some (.slice A13 n13 c13) := (cellAt BY.out 4).trans rfl
  have hcc : (cd == cd) = true := by simp
  have HFT := hid (applyP_fits s r)
  rw [← HTS.out] at HFT
  have hn4 : n4 ≤ 1000000 := by have h1 := HT.out.1; have h2 := HFT.out.1; omega
  go_wp2_with fail
  clear hcc
  clear T_0 T_1 T_2 T_3 T_4 Y_0 Y_1 Y_2 Y_3 Y_4
  refine (same13_any (x := tS) HT.out HYF.out hn4 (fun e he => (HFT.out.2 e he).1)).mono ?_
  rintro e w13 ⟨rfl, h13⟩
  rw [decide_eq_true (rfl : tS = tS)]
  have C13 := hid (C12.out.trans h13 (fun _ h _ => h))
  replace BT := hid ((h13).blk BT.out (fun h => h))
  replace HL := hid (HL.out.chg (h13) (fun _ _ h => h))
  replace HR := hid (HR.out.chg (h13) (fun _ _ h => h))
  replace HT := hid (HT.out.chg (h13) (fun _ _ h => h))
  replace HX := hid (HX.out.chg (h13) (fun _ _ h => h))
  clear h13
  by_cases hz : cd = 0
  case neg =>
    have hz2 : (cd != 0) = true := by simp [hz]
    clear hz
    go_wp2_with fail
    go_ret
    exact ⟨rfl, HFIN.out _ (C0.out.trans C13.out (fun _ h _ => h))⟩
  subst hz
  have HRT := hid (show stR tS = true by rw [HTS.out]; exact applyP_right HCD.out.symm)
  have T_0 : w13.cell? ⟨w4.heap.size, 0, none⟩ = some (.int .i64 tS.view) := (cellAt BT.out 0).trans rfl
  have T_1 : w13.cell? ⟨w4.heap.size, 1, none⟩ = some (.int .i64 tS.normal) := (cellAt BT.out 1).trans rfl
  have T_2 : w13.cell? ⟨w4.heap.size, 2, none⟩ = some (.int .i64 tS.commit) := (cellAt BT.out 2).trans rfl
  have T_3 : w13.cell? ⟨w4.heap.size, 3, none⟩ = some (.int .i64 tS.active) := (cellAt BT.out 3).trans rfl
  have T_4 : w13.cell? ⟨w4.heap.size, 4, none⟩ = some (.slice A4 n4 c4) := (cellAt BT.out 4).trans rfl
  go_wp2_with fail
  refine (stright_any HT.out).mono ?_
  rintro e w14 ⟨rfl, h14⟩
  rw [HRT.out]
  have C14 := hid (C13.out.trans h14 (fun _ h _ => h))
  clear h14
  go_wp2_with fail
  go_ret
  exact ⟨rfl, HFIN.out _ (C0.out.trans C14.out (fun _ h _ => h))⟩
end Go.Proofs.Ytfpjickdkkhndaa.Pa
