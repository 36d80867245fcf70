
/- The document's Parse and ParseRecord. -/

import Derived.Test.YtcmfgijdelaelaaPackZ

import Derived.Test.YtcmfgijdelaelaaPackRf

import Derived.Test.YtcmfgijdelaelaaPackRg

namespace Go.Proofs.Ytcmfgijdelaelaa.Pa

set_option linter.unusedVariables false

set_option linter.unusedSimpArgs false

open Go.RowKit Go.Proofs.Ytcmfgijdelaelaa.C

attribute [local go_sem] max2_int min2_int max_two min_two

def rdMsgR : List UInt8 → Option (Msg × List UInt8) := thenRd (rdList rdNum 7) (rdSeq 1 rdEntryR) mkMsg
def parseMsgR (b : List UInt8) : Option Msg := (rdMsgR b).bind fun q => if q.2 = [] ∧ b.length ≤ 65536 ∧ msgR q.1 = true then some q.1 else none
def ParsedMsg (w : World) (b : List UInt8) (e' : Ending) (w' : World) : Prop :=
  ∃ (m : Msg) (A' : Option Addr) (n' c' : Nat) (ok : Bool), e' = .returned (.tuple #[.agg #[.int .i64 m.kind, .int .i64 m.view, .int .i64 m.src, .int .i64 m.dst, .int .i64 m.op, .int .i64 m.commit, .int .i64 m.normal, .slice A' n' c'], .bool ok]) ∧ parseMsgR b = (if ok = true then some m else none) ∧ (∀ u ∈ m.nums, (Lit.int .i64 u).wf = true) ∧ Ty.At entryK w' (fun k => w.heap.size ≤ k) A' n' c' m.log ∧ Chg (fun _ => False) w w'
theorem parseMsgR_bad {b : List UInt8} {m : Msg} {at' : Nat} (h : (left b 0 false).bind rdMsgR = (left b at' true).map fun r => (m, r)) : parseMsgR b = none := by
  rw [left_some, List.drop_zero, Option.bind_some, left_none, Option.map_none] at h
  unfold parseMsgR
  rw [h]
  rfl
theorem parseMsgR_good {b : List UInt8} {m : Msg} {at' : Nat} (h : (left b 0 false).bind rdMsgR = (left b at' false).map fun r => (m, r)) : parseMsgR b = if b.drop at' = [] ∧ b.length ≤ 65536 ∧ msgR m = true then some m else none := by
  rw [left_some, List.drop_zero, Option.bind_some, left_some, Option.map_some] at h
  unfold parseMsgR
  rw [h]
  rfl
set_option maxHeartbeats 4000000 in
set_option maxRecDepth 100000 in
theorem parsemsg_any {w : World} {R : Nat → Prop} {A : Option Addr} {n c : Nat} {b : List UInt8} (h : Ty.At Ty.u8 w R A n c b) (hn : n ≤ 1000000) :
    Calls Try.prog 27 #[.slice A n c] w (ParsedMsg w b) := by
  have HN := hid h.1
  have hn2 : (n : Int) ≤ 1000000 := by omega
  obtain ⟨g, hg⟩ : ∃ g, g = w.heap.size + 1 := ⟨_, rfl⟩
  obtain ⟨w0, hw0⟩ : ∃ w0, w0 = (w.alloc (.cells #[.int .i64 0, .int .i64 0, .int .i64 0, .int .i64 0, .int .i64 0, .int .i64 0, .int .i64 0, .slice none 0 0] 47)).alloc (.cells #[.slice A n c, .int .i64 0, .bool false] 87) := ⟨_, rfl⟩
  have C0 := hid (show Chg (fun _ => False) w w0 by rw [hw0]; exact ((Chg.refl _ w).alloc _).alloc _)
  have B0 := hid (show w0.heap[w.heap.size]? = some (.cells #[.int .i64 0, .int .i64 0, .int .i64 0, .int .i64 0, .int .i64 0, .int .i64 0, .int .i64 0, .slice none 0 0] 47 (0, 0)) by rw [hw0]; exact blk_alloc (blk_new w _) _)
  have G0 : w0.heap[g]? = some (.cells #[.slice A n c, .int .i64 0, .bool false] 87 (0, 0)) := by
    rw [hw0, hg]
    have := blk_new (w.alloc (.cells #[.int .i64 0, .int .i64 0, .int .i64 0, .int .i64 0, .int .i64 0, .int .i64 0, .int .i64 0, .slice none 0 0] 47)) (.cells #[.slice A n c, .int .i64 0, .bool false] 87)
    simpa using this
  have H0 := hid (show Rf w0 w.heap.size g A n c b 0 false from ⟨by omega, G0, (h.bound.mono (S' := fun k => k < w.heap.size) (fun k hk => hk.2)).chg C0.out (fun _ _ h => h), Nat.zero_le _⟩)
  have hgw : w.heap.size < g := by omega
  have E0 := hid (rdZero (X := left b 0 false))
  have C00 := hid (Chg.refl (fun k => k = g) w0)
  clear h G0
  go_enter Try.func27, Try.ntmps27
  go_wp2_with fail
  rw [← hw0, ← hg]
  clear hw0 hg
  refine (refnum_r H0.out hn).mono ?_
  rintro e w1 ⟨u1, rfl, hw1, hc1, at1, bad1, hr1, eq1⟩
  have H1 := hid hr1
  have C1 := hid (C00.out.trans hc1 (fun _ h _ => h))
  have E1 := hid (rdMore E0.out eq1)
  have W1 := hid hw1
  clear hw1 hc1 hr1 eq1 H0 E0 C00
  go_wp2_with fail
  refine (refnum_r H1.out hn).mono ?_
  rintro e w2 ⟨u2, rfl, hw2, hc2, at2, bad2, hr2, eq2⟩
  have H2 := hid hr2
  have C2 := hid (C1.out.trans hc2 (fun _ h _ => h))
  have E2 := hid (rdMore E1.out eq2)
  have W2 := hid hw2
  clear hw2 hc2 hr2 eq2 H1 E1 C1
  go_wp2_with fail
  refine (refnum_r H2.out hn).mono ?_
  rintro e w3 ⟨u3, rfl, hw3, hc3, at3, bad3, hr3, eq3⟩
  have H3 := hid hr3
  have C3 := hid (C2.out.trans hc3 (fun _ h _ => h))
  have E3 := hid (rdMore E2.out eq3)
  have W3 := hid hw3
  clear hw3 hc3 hr3 eq3 H2 E2 C2
  go_wp2_with fail
  refine (refnum_r H3.out hn).mono ?_
  rintro e w4 ⟨u4, rfl, hw4, hc4, at4, bad4, hr4, eq4⟩
  have H4 := hid hr4
  have C4 := hid (C3.out.trans hc4 (fun _ h _ => h))
  have E4 := hid (rdMore E3.out eq4)
  have W4 := hid hw4
  clear hw4 hc4 hr4 eq4 H3 E3 C3
  go_wp2_with fail
  refine (refnum_r H4.out hn).mono ?_
  rintro e w5 ⟨u5, rfl, hw5, hc5, at5, bad5, hr5, eq5⟩
  have H5 := hid hr5
  have C5 := hid (C4.out.trans hc5 (fun _ h _ => h))
  have E5 := hid (rdMore E4.out eq5)
  have W5 := hid hw5
  clear hw5 hc5 hr5 eq5 H4 E4 C4
  go_wp2_with fail
  refine (refnum_r H5.out hn).mono ?_
  rintro e w6 ⟨u6, rfl, hw6, hc6, at6, bad6, hr6, eq6⟩
  have H6 := hid hr6
  have C6 := hid (C5.out.trans hc6 (fun _ h _ => h))
  have E6 := hid (rdMore E5.out eq6)
  have W6 := hid hw6
  clear hw6 hc6 hr6 eq6 H5 E5 C5
  go_wp2_with fail
  refine (refnum_r H6.out hn).mono ?_
  rintro e w7 ⟨u7, rfl, hw7, hc7, at7, bad7, hr7, eq7⟩
  have H7 := hid hr7
  have C7 := hid (C6.out.trans hc7 (fun _ h _ => h))
  have E7 := hid (rdMore E6.out eq7)
  have W7 := hid hw7
  clear hw7 hc7 hr7 eq7 H6 E6 C6
  go_wp2_with fail
  obtain ⟨p, hp⟩ : ∃ p, p = w7.heap.size := ⟨_, rfl⟩
  obtain ⟨wa, hwa⟩ : ∃ wa, wa = w7.alloc (.cells #[.int .i64 u1, .int .i64 u2, .int .i64 u3, .int .i64 u4, .int .i64 u5, .int .i64 u6, .int .i64 u7, .slice none 0 0] 47) := ⟨_, rfl⟩
  have CP := hid (show Chg (fun _ => False) w7 wa by rw [hwa]; exact (Chg.refl _ w7).alloc _)
  have PA := hid (show wa.heap[p]? = some (.cells #[.int .i64 u1, .int .i64 u2, .int .i64 u3, .int .i64 u4, .int .i64 u5, .int .i64 u6, .int .i64 u7, .slice none 0 0] 47 (0, 0)) by rw [hwa, hp]; exact blk_new w7 _)
  have hpg : p ≠ g := by have := H7.out.lt; omega
  have hpw : w.heap.size < p := by rw [hp]; exact Nat.lt_of_lt_of_le (lt_of_blk B0.out) C7.out.size
  rw [← hwa, ← hp]
  have HA := hid (H7.out.chg CP.out (fun _ h => h.elim) (fun h => h))
  have CA := hid (show Chg (fun k => k = g) w0 wa from C7.out.trans CP.out (fun _ h _ => h.elim))
  have hsa := hid (show w.heap.size ≤ wa.heap.size from Nat.le_trans (Nat.le_trans C0.out.size C7.out.size) CP.out.size)
  clear hwa hp H7 C7 CP
  refine (reflog_r HA.out hn).mono ?_
  rintro e wl ⟨xs, A', c', rfl, hx, hcl, atl, badl, hrl, eql⟩
  have HX := hid hx
  have EL := hid (thenRd_eq mkMsg E7.out eql)
  have PL := hid (hcl.blk PA.out hpg)
  have z : wl.cell? ⟨p, 7, none⟩ = some (.slice none 0 0) := by rw [cellAt PL.out]; rfl
  have fz : wl.frozen? ⟨p, 7, none⟩ = false := freeAt PL.out 7
  go_wp2_with fail
  obtain ⟨wm, hwm⟩ : ∃ wm, wm = wl.setCell ⟨p, 7, none⟩ (.slice A' xs.length c') := ⟨_, rfl⟩
  rw [← hwm]
  have CS := hid (show Chg (fun k => k = p) wl wm by rw [hwm]; exact chg_at p 7 _ wl)
  have PM := hid (show wm.heap[p]? = some (.cells #[.int .i64 u1, .int .i64 u2, .int .i64 u3, .int .i64 u4, .int .i64 u5, .int .i64 u6, .int .i64 u7, .slice A' xs.length c'] 47 (0, 0)) by rw [hwm]; exact blk_set PL.out 7 _)
  have HR := hid (hrl.chg CS.out (fun k hk => by subst hk; omega) (fun e => hpg e.symm))
  have pla := lt_of_blk PA.out
  have HXM := hid (hx.bound.chg CS.out (fun k hk e => by have q1 : wa.heap.size ≤ k := hk.1; omega))
  have CM := hid (show Chg (fun k => k = g ∨ k = p) w0 wm from ((CA.out.mono (S' := fun k => k = g ∨ k = p) (fun _ h _ => .inl h)).trans hcl (fun _ h _ => .inl h)).trans CS.out (fun _ h _ => .inr h))
  have BM := hid (CM.out.blk B0.out (fun e => by rcases e with e | e <;> omega))
  clear hx hcl hrl eql z fz hwm CS PL PA CA HA
  have HLE := hid HR.out.le
  obtain ⟨d0, d1, d2⟩ := HR.out.cells
  have hd1 : ∀ wx, Chg (fun k => k = w.heap.size) wm wx → wx.cell? ⟨g, 1, none⟩ = some (.int .i64 (atl : Int)) := fun wx hx => hx.cell d1 (by show ¬ g = _; omega)
  have x0 : ∀ wx, Chg (fun k => k = w.heap.size) wm wx → wx.cell? ⟨p, 0, none⟩ = some (.int .i64 u1) := fun wx hx => hx.cell (by rw [cellAt PM.out]; rfl) (by show ¬ p = _; omega)
  have x1 : ∀ wx, Chg (fun k => k = w.heap.size) wm wx → wx.cell? ⟨p, 1, none⟩ = some (.int .i64 u2) := fun wx hx => hx.cell (by rw [cellAt PM.out]; rfl) (by show ¬ p = _; omega)
  have x2 : ∀ wx, Chg (fun k => k = w.heap.size) wm wx → wx.cell? ⟨p, 2, none⟩ = some (.int .i64 u3) := fun wx hx => hx.cell (by rw [cellAt PM.out]; rfl) (by show ¬ p = _; omega)
  have x3 : ∀ wx, Chg (fun k => k = w.heap.size) wm wx → wx.cell? ⟨p, 3, none⟩ = some (.int .i64 u4) := fun wx hx => hx.cell (by rw [cellAt PM.out]; rfl) (by show ¬ p = _; omega)
  have x4 : ∀ wx, Chg (fun k => k = w.heap.size) wm wx → wx.cell? ⟨p, 4, none⟩ = some (.int .i64 u5) := fun wx hx => hx.cell (by rw [cellAt PM.out]; rfl) (by show ¬ p = _; omega)
  have x5 : ∀ wx, Chg (fun k => k = w.heap.size) wm wx → wx.cell? ⟨p, 5, none⟩ = some (.int .i64 u6) := fun wx hx => hx.cell (by rw [cellAt PM.out]; rfl) (by show ¬ p = _; omega)
  have x6 : ∀ wx, Chg (fun k => k = w.heap.size) wm wx → wx.cell? ⟨p, 6, none⟩ = some (.int .i64 u7) := fun wx hx => hx.cell (by rw [cellAt PM.out]; rfl) (by show ¬ p = _; omega)
  have x7 : ∀ wx, Chg (fun k => k = w.heap.size) wm wx → wx.cell? ⟨p, 7, none⟩ = some (.slice A' xs.length c') := fun wx hx => hx.cell (by rw [cellAt PM.out]; rfl) (by show ¬ p = _; omega)
  have y0 : wm.cell? ⟨w.heap.size, 0, none⟩ = some (.int .i64 0) := (cellAt BM.out 0).trans rfl
  have f0 : wm.frozen? ⟨w.heap.size, 0, none⟩ = false := freeAt BM.out 0
  have y1 : wm.cell? ⟨w.heap.size, 1, none⟩ = some (.int .i64 0) := (cellAt BM.out 1).trans rfl
  have f1 : wm.frozen? ⟨w.heap.size, 1, none⟩ = false := freeAt BM.out 1
  have y2 : wm.cell? ⟨w.heap.size, 2, none⟩ = some (.int .i64 0) := (cellAt BM.out 2).trans rfl
  have f2 : wm.frozen? ⟨w.heap.size, 2, none⟩ = false := freeAt BM.out 2
  have y3 : wm.cell? ⟨w.heap.size, 3, none⟩ = some (.int .i64 0) := (cellAt BM.out 3).trans rfl
  have f3 : wm.frozen? ⟨w.heap.size, 3, none⟩ = false := freeAt BM.out 3
  have y4 : wm.cell? ⟨w.heap.size, 4, none⟩ = some (.int .i64 0) := (cellAt BM.out 4).trans rfl
  have f4 : wm.frozen? ⟨w.heap.size, 4, none⟩ = false := freeAt BM.out 4
  have y5 : wm.cell? ⟨w.heap.size, 5, none⟩ = some (.int .i64 0) := (cellAt BM.out 5).trans rfl
  have f5 : wm.frozen? ⟨w.heap.size, 5, none⟩ = false := freeAt BM.out 5
  have y6 : wm.cell? ⟨w.heap.size, 6, none⟩ = some (.int .i64 0) := (cellAt BM.out 6).trans rfl
  have f6 : wm.frozen? ⟨w.heap.size, 6, none⟩ = false := freeAt BM.out 6
  have y7 : wm.cell? ⟨w.heap.size, 7, none⟩ = some (.slice none 0 0) := (cellAt BM.out 7).trans rfl
  have f7 : wm.frozen? ⟨w.heap.size, 7, none⟩ = false := freeAt BM.out 7
  have CE := hid (show Chg (fun _ => False) w wm from (C0.out.trans CM.out (fun k hk hl => by have := C0.out.size; rcases hk with hk | hk <;> omega)))
  have WF := hid (show ∀ u ∈ (mkMsg [u1, u2, u3, u4, u5, u6, u7] xs).nums, (Lit.int .i64 u).wf = true from by
    intro u hu
    simp [mkMsg, Msg.nums] at hu
    rcases hu with rfl | rfl | rfl | rfl | rfl | rfl | rfl
    · exact W1.out
    · exact W2.out
    · exact W3.out
    · exact W4.out
    · exact W5.out
    · exact W6.out
    · exact W7.out)
  have HSM := hid (show w.heap.size < wm.heap.size from lt_of_blk BM.out)
  cases badl with
  | true =>
    have hd2 : ∀ wx, Chg (fun k => k = w.heap.size) wm wx → wx.cell? ⟨g, 2, none⟩ = some (.bool true) := fun wx hx => hx.cell d2 (by show ¬ g = _; omega)
    clear d0 d1 d2
    go_wp2_with fail
    refine wpB_start (fun wx : World => Chg (fun k => k = w.heap.size) wm wx) (by kernel_rfl) ?_
    have hHeld : (fun wx : World => Chg (fun k => k = w.heap.size) wm wx) _ := (by first | assumption | exact Chg.drew (Chg.refl _ _) | (show _ ∧ _; refine ⟨?_, ?_⟩ <;> assumption) | (first | (with_reducible exact hHeld.trans HZ.out (fun _ h _ => h.elim)) | (with_reducible exact ((((((((hHeld.set (p := ⟨w.heap.size, 0, none⟩) (fun _ => rfl) (.int .i64 u1)).set (p := ⟨w.heap.size, 1, none⟩) (fun _ => rfl) (.int .i64 u2)).set (p := ⟨w.heap.size, 2, none⟩) (fun _ => rfl) (.int .i64 u3)).set (p := ⟨w.heap.size, 3, none⟩) (fun _ => rfl) (.int .i64 u4)).set (p := ⟨w.heap.size, 4, none⟩) (fun _ => rfl) (.int .i64 u5)).set (p := ⟨w.heap.size, 5, none⟩) (fun _ => rfl) (.int .i64 u6)).set (p := ⟨w.heap.size, 6, none⟩) (fun _ => rfl) (.int .i64 u7)).set (p := ⟨w.heap.size, 7, none⟩) (fun _ => rfl) (.slice A' xs.length c'))) | (with_reducible exact ((((((((((Chg.refl (fun k => k = w.heap.size) wm).set (p := ⟨w.heap.size, 0, none⟩) (fun _ => rfl) (.int .i64 u1)).set (p := ⟨w.heap.size, 1, none⟩) (fun _ => rfl) (.int .i64 u2)).set (p := ⟨w.heap.size, 2, none⟩) (fun _ => rfl) (.int .i64 u3)).set (p := ⟨w.heap.size, 3, none⟩) (fun _ => rfl) (.int .i64 u4)).set (p := ⟨w.heap.size, 4, none⟩) (fun _ => rfl) (.int .i64 u5)).set (p := ⟨w.heap.size, 5, none⟩) (fun _ => rfl) (.int .i64 u6)).set (p := ⟨w.heap.size, 6, none⟩) (fun _ => rfl) (.int .i64 u7)).set (p := ⟨w.heap.size, 7, none⟩) (fun _ => rfl) (.slice A' xs.length c'))).drew)))
    -- 0: t27 := load 47 t5 : 47
    refine wpB_take (i := 0) (v := ?_) (get_of_drop rfl) (by kernel_rfl) (by kernel_rfl) (by kernel_rfl) (by kernel_rfl) (fun _ _ _ h => h) (Or.inl ⟨by rfl, ?_⟩) hHeld ?_
    rotate_left
    · (intro w hSw; (try dsimp only at hSw); go_simp <;> with_reducible rfl)
    try simp only [Act.put, List.setIfInBounds_toArray, List.set_cons_zero, List.set_cons_succ]
    -- 1: t28 := move t4 : 85
    refine wpB_take (i := 1) (v := ?_) (get_of_drop rfl) (by kernel_rfl) (by kernel_rfl) (by kernel_rfl) (by kernel_rfl) (fun _ _ _ h => h) (Or.inl ⟨by rfl, ?_⟩) hHeld ?_
    rotate_left
    · (intro w hSw; (try dsimp only at hSw); go_simp <;> with_reducible rfl)
    try simp only [Act.put, List.setIfInBounds_toArray, List.set_cons_zero, List.set_cons_succ]
    -- 2: t29 := nilCheck t28 : 0
    refine wpB_take (i := 2) (v := ?_) (get_of_drop rfl) (by kernel_rfl) (by kernel_rfl) (by kernel_rfl) (by kernel_rfl) (fun _ _ _ h => h) (Or.inl ⟨by rfl, ?_⟩) hHeld ?_
    rotate_left
    · (intro w hSw; (try dsimp only at hSw); go_simp <;> with_reducible rfl)
    try simp only [Act.put, List.setIfInBounds_toArray, List.set_cons_zero, List.set_cons_succ]
    -- 3: t30 := fieldAddr 87 t29 2 : 0
    refine wpB_take (i := 3) (v := ?_) (get_of_drop rfl) (by kernel_rfl) (by kernel_rfl) (by kernel_rfl) (by kernel_rfl) (fun _ _ _ h => h) (Or.inl ⟨by rfl, ?_⟩) hHeld ?_
    rotate_left
    · (intro w hSw; (try dsimp only at hSw); go_simp <;> with_reducible rfl)
    try simp only [Act.put, List.setIfInBounds_toArray, List.set_cons_zero, List.set_cons_succ]
    -- 4: t31 := load 4 t30 : 4
    refine wpB_take (i := 4) (v := ?_) (get_of_drop rfl) (by kernel_rfl) (by kernel_rfl) (by kernel_rfl) (by kernel_rfl) (fun _ _ _ h => h) (Or.inl ⟨by rfl, ?_⟩) hHeld ?_
    rotate_left
    · (intro w hSw; (try dsimp only at hSw); go_simp <;> with_reducible rfl)
    try simp only [Act.put, List.setIfInBounds_toArray, List.set_cons_zero, List.set_cons_succ]
    -- 5: t32 := unOp UnOp.not 4 t31 : 4
    refine wpB_take (i := 5) (v := ?_) (get_of_drop rfl) (by kernel_rfl) (by kernel_rfl) (by kernel_rfl) (by kernel_rfl) (fun _ _ _ h => h) (Or.inl ⟨by rfl, ?_⟩) hHeld ?_
    rotate_left
    · (intro w hSw; (try dsimp only at hSw); go_simp <;> with_reducible rfl)
    try simp only [Act.put, List.setIfInBounds_toArray, List.set_cons_zero, List.set_cons_succ]
    -- 6: t33 := move t32 : 4
    refine wpB_take (i := 6) (v := ?_) (get_of_drop rfl) (by kernel_rfl) (by kernel_rfl) (by kernel_rfl) (by kernel_rfl) (fun _ _ _ h => h) (Or.inl ⟨by rfl, ?_⟩) hHeld ?_
    rotate_left
    · (intro w hSw; (try dsimp only at hSw); go_simp <;> with_reducible rfl)
    try simp only [Act.put, List.setIfInBounds_toArray, List.set_cons_zero, List.set_cons_succ]
    -- 7: t34 := move t4 : 85   [if ⟨6, true⟩]
    refine wpB_take (i := 7) (v := undef) (get_of_drop rfl) (by kernel_rfl) (by kernel_rfl) (by kernel_rfl) (by kernel_rfl) (fun _ _ _ h => h) (Or.inr ⟨by rfl, rfl⟩) hHeld ?_
    try simp only [Act.put, List.setIfInBounds_toArray, List.set_cons_zero, List.set_cons_succ]
    -- 8: t35 := nilCheck t34 : 0   [if ⟨6, true⟩]
    refine wpB_take (i := 8) (v := undef) (get_of_drop rfl) (by kernel_rfl) (by kernel_rfl) (by kernel_rfl) (by kernel_rfl) (fun _ _ _ h => h) (Or.inr ⟨by rfl, rfl⟩) hHeld ?_
    try simp only [Act.put, List.setIfInBounds_toArray, List.set_cons_zero, List.set_cons_succ]
    -- 9: t36 := fieldAddr 87 t35 1 : 0   [if ⟨6, true⟩]
    refine wpB_take (i := 9) (v := undef) (get_of_drop rfl) (by kernel_rfl) (by kernel_rfl) (by kernel_rfl) (by kernel_rfl) (fun _ _ _ h => h) (Or.inr ⟨by rfl, rfl⟩) hHeld ?_
    try simp only [Act.put, List.setIfInBounds_toArray, List.set_cons_zero, List.set_cons_succ]
    -- 10: t37 := load 3 t36 : 3   [if ⟨6, true⟩]
    refine wpB_take (i := 10) (v := undef) (get_of_drop rfl) (by kernel_rfl) (by kernel_rfl) (by kernel_rfl) (by kernel_rfl) (fun _ _ _ h => h) (Or.inr ⟨by rfl, rfl⟩) hHeld ?_
    try simp only [Act.put, List.setIfInBounds_toArray, List.set_cons_zero, List.set_cons_succ]
    -- 11: t38 := move t0 : 25   [if ⟨6, true⟩]
    refine wpB_take (i := 11) (v := undef) (get_of_drop rfl) (by kernel_rfl) (by kernel_rfl) (by kernel_rfl) (by kernel_rfl) (fun _ _ _ h => h) (Or.inr ⟨by rfl, rfl⟩) hHeld ?_
    try simp only [Act.put, List.setIfInBounds_toArray, List.set_cons_zero, List.set_cons_succ]
    -- 12: t39 := len(t38) types [25] : 3   [if ⟨6, true⟩]
    refine wpB_take (i := 12) (v := undef) (get_of_drop rfl) (by kernel_rfl) (by kernel_rfl) (by kernel_rfl) (by kernel_rfl) (fun _ _ _ h => h) (Or.inr ⟨by rfl, rfl⟩) hHeld ?_
    try simp only [Act.put, List.setIfInBounds_toArray, List.set_cons_zero, List.set_cons_succ]
    -- 13: t40 := binOp BinOp.eql 3 t37 t39 3 : 4   [if ⟨6, true⟩]
    refine wpB_take (i := 13) (v := undef) (get_of_drop rfl) (by kernel_rfl) (by kernel_rfl) (by kernel_rfl) (by kernel_rfl) (fun _ _ _ h => h) (Or.inr ⟨by rfl, rfl⟩) hHeld ?_
    try simp only [Act.put, List.setIfInBounds_toArray, List.set_cons_zero, List.set_cons_succ]
    -- 14: t41 := pick t33 t40 #false : 4
    refine wpB_take (i := 14) (v := ?_) (get_of_drop rfl) (by kernel_rfl) (by kernel_rfl) (by kernel_rfl) (by kernel_rfl) (fun _ _ _ h => h) (Or.inl ⟨by rfl, ?_⟩) hHeld ?_
    rotate_left
    · (intro w hSw; (try dsimp only at hSw); go_simp <;> with_reducible rfl)
    try simp only [Act.put, List.setIfInBounds_toArray, List.set_cons_zero, List.set_cons_succ]
    -- 15: t42 := move t41 : 4
    refine wpB_take (i := 15) (v := ?_) (get_of_drop rfl) (by kernel_rfl) (by kernel_rfl) (by kernel_rfl) (by kernel_rfl) (fun _ _ _ h => h) (Or.inl ⟨by rfl, ?_⟩) hHeld ?_
    rotate_left
    · (intro w hSw; (try dsimp only at hSw); go_simp <;> with_reducible rfl)
    try simp only [Act.put, List.setIfInBounds_toArray, List.set_cons_zero, List.set_cons_succ]
    -- 16: t43 := move t0 : 25   [if ⟨15, true⟩]
    refine wpB_take (i := 16) (v := undef) (get_of_drop rfl) (by kernel_rfl) (by kernel_rfl) (by kernel_rfl) (by kernel_rfl) (fun _ _ _ h => h) (Or.inr ⟨by rfl, rfl⟩) hHeld ?_
    try simp only [Act.put, List.setIfInBounds_toArray, List.set_cons_zero, List.set_cons_succ]
    -- 17: t44 := len(t43) types [25] : 3   [if ⟨15, true⟩]
    refine wpB_take (i := 17) (v := undef) (get_of_drop rfl) (by kernel_rfl) (by kernel_rfl) (by kernel_rfl) (by kernel_rfl) (fun _ _ _ h => h) (Or.inr ⟨by rfl, rfl⟩) hHeld ?_
    try simp only [Act.put, List.setIfInBounds_toArray, List.set_cons_zero, List.set_cons_succ]
    -- 18: t45 := binOp BinOp.leq 3 t44 #i64:65536 3 : 4   [if ⟨15, true⟩]
    refine wpB_take (i := 18) (v := undef) (get_of_drop rfl) (by kernel_rfl) (by kernel_rfl) (by kernel_rfl) (by kernel_rfl) (fun _ _ _ h => h) (Or.inr ⟨by rfl, rfl⟩) hHeld ?_
    try simp only [Act.put, List.setIfInBounds_toArray, List.set_cons_zero, List.set_cons_succ]
    -- 19: t46 := pick t42 t45 #false : 4
    refine wpB_take (i := 19) (v := ?_) (get_of_drop rfl) (by kernel_rfl) (by kernel_rfl) (by kernel_rfl) (by kernel_rfl) (fun _ _ _ h => h) (Or.inl ⟨by rfl, ?_⟩) hHeld ?_
    rotate_left
    · (intro w hSw; (try dsimp only at hSw); go_simp <;> with_reducible rfl)
    try simp only [Act.put, List.setIfInBounds_toArray, List.set_cons_zero, List.set_cons_succ]
    -- 20: t47 := move t46 : 4
    refine wpB_take (i := 20) (v := ?_) (get_of_drop rfl) (by kernel_rfl) (by kernel_rfl) (by kernel_rfl) (by kernel_rfl) (fun _ _ _ h => h) (Or.inl ⟨by rfl, ?_⟩) hHeld ?_
    rotate_left
    · (intro w hSw; (try dsimp only at hSw); go_simp <;> with_reducible rfl)
    try simp only [Act.put, List.setIfInBounds_toArray, List.set_cons_zero, List.set_cons_succ]
    -- 21: t48 := load 47 t5 : 47   [if ⟨20, true⟩]
    refine wpB_take (i := 21) (v := undef) (get_of_drop rfl) (by kernel_rfl) (by kernel_rfl) (by kernel_rfl) (by kernel_rfl) (fun _ _ _ h => h) (Or.inr ⟨by rfl, rfl⟩) hHeld ?_
    try simp only [Act.put, List.setIfInBounds_toArray, List.set_cons_zero, List.set_cons_succ]
    -- 22: t49 := CALL fn24(t48) : 4   [if ⟨20, true⟩]
    refine wpB_take (i := 22) (v := undef) (get_of_drop rfl) (by kernel_rfl) (by kernel_rfl) (by kernel_rfl) (by kernel_rfl) (fun _ _ _ h => h) (Or.inr ⟨by rfl, rfl⟩) hHeld ?_
    try simp only [Act.put, List.setIfInBounds_toArray, List.set_cons_zero, List.set_cons_succ]
    -- 23: t50 := pick t47 t49 #false : 4
    refine wpB_take (i := 23) (v := ?_) (get_of_drop rfl) (by kernel_rfl) (by kernel_rfl) (by kernel_rfl) (by kernel_rfl) (fun _ _ _ h => h) (Or.inl ⟨by rfl, ?_⟩) hHeld ?_
    rotate_left
    · (intro w hSw; (try dsimp only at hSw); go_simp <;> with_reducible rfl)
    try simp only [Act.put, List.setIfInBounds_toArray, List.set_cons_zero, List.set_cons_succ]
    -- 24: t- := store 47 t2 t27 : 0
    refine wpB_act (i := 24) (by kernel_rfl) (get_of_drop rfl) (fun K hK => ?_)
    go_simp
    refine hK.out _ _ ?_ (fun hHeld2 => ?_)
    · (first | (with_reducible exact hHeld.trans HZ.out (fun _ h _ => h.elim)) | (with_reducible exact ((((((((hHeld.set (p := ⟨w.heap.size, 0, none⟩) (fun _ => rfl) (.int .i64 u1)).set (p := ⟨w.heap.size, 1, none⟩) (fun _ => rfl) (.int .i64 u2)).set (p := ⟨w.heap.size, 2, none⟩) (fun _ => rfl) (.int .i64 u3)).set (p := ⟨w.heap.size, 3, none⟩) (fun _ => rfl) (.int .i64 u4)).set (p := ⟨w.heap.size, 4, none⟩) (fun _ => rfl) (.int .i64 u5)).set (p := ⟨w.heap.size, 5, none⟩) (fun _ => rfl) (.int .i64 u6)).set (p := ⟨w.heap.size, 6, none⟩) (fun _ => rfl) (.int .i64 u7)).set (p := ⟨w.heap.size, 7, none⟩) (fun _ => rfl) (.slice A' xs.length c'))) | (with_reducible exact ((((((((((Chg.refl (fun k => k = w.heap.size) wm).set (p := ⟨w.heap.size, 0, none⟩) (fun _ => rfl) (.int .i64 u1)).set (p := ⟨w.heap.size, 1, none⟩) (fun _ => rfl) (.int .i64 u2)).set (p := ⟨w.heap.size, 2, none⟩) (fun _ => rfl) (.int .i64 u3)).set (p := ⟨w.heap.size, 3, none⟩) (fun _ => rfl) (.int .i64 u4)).set (p := ⟨w.heap.size, 4, none⟩) (fun _ => rfl) (.int .i64 u5)).set (p := ⟨w.heap.size, 5, none⟩) (fun _ => rfl) (.int .i64 u6)).set (p := ⟨w.heap.size, 6, none⟩) (fun _ => rfl) (.int .i64 u7)).set (p := ⟨w.heap.size, 7, none⟩) (fun _ => rfl) (.slice A' xs.length c'))).drew))
    clear hHeld hK K
    have hHeld := hHeld2
    clear hHeld2
    try simp only [Act.put, List.setIfInBounds_toArray, List.set_cons_zero, List.set_cons_succ]
    -- 25: t3 := assign t50 : 4
    refine wpB_take (i := 25) (v := ?_) (get_of_drop rfl) (by kernel_rfl) (by kernel_rfl) (by kernel_rfl) (by kernel_rfl) (fun _ _ _ h => h) (Or.inl ⟨by rfl, ?_⟩) hHeld ?_
    rotate_left
    · (intro w hSw; (try dsimp only at hSw); go_simp <;> with_reducible rfl)
    try simp only [Act.put, List.setIfInBounds_toArray, List.set_cons_zero, List.set_cons_succ]
    refine wpB_done (by kernel_rfl) ?_ _
    clear hHeld hd1 x0 y0 f0 x1 y1 f1 x2 y2 f2 x3 y3 f3 x4 y4 f4 x5 y5 f5 x6 y6 f6 x7 y7 f7
    clear hd2
    go_wp2_with fail
    obtain ⟨PB, PC⟩ := put_blk (msgCells (mkMsg [u1, u2, u3, u4, u5, u6, u7] xs) A' xs.length c') wm _ BM.out rfl
    generalize hW : ((((((((wm.setCell ⟨w.heap.size, 0, none⟩ (.int .i64 u1)).setCell ⟨w.heap.size, 1, none⟩ (.int .i64 u2)).setCell ⟨w.heap.size, 2, none⟩ (.int .i64 u3)).setCell ⟨w.heap.size, 3, none⟩ (.int .i64 u4)).setCell ⟨w.heap.size, 4, none⟩ (.int .i64 u5)).setCell ⟨w.heap.size, 5, none⟩ (.int .i64 u6)).setCell ⟨w.heap.size, 6, none⟩ (.int .i64 u7)).setCell ⟨w.heap.size, 7, none⟩ (.slice A' xs.length c')) = W0
    have PB0 : W0.heap[w.heap.size]? = some (.cells (msgCells (mkMsg [u1, u2, u3, u4, u5, u6, u7] xs) A' xs.length c').toArray 47 (0, 0)) := by rw [← hW]; exact PB
    have PC0 : Chg (fun k => k = w.heap.size) wm W0 := by rw [← hW]; exact PC
    obtain ⟨W, hW2⟩ : ∃ W, W = W0.drew := ⟨_, rfl⟩
    rw [← hW2]
    have PB' : W.heap[w.heap.size]? = some (.cells (msgCells (mkMsg [u1, u2, u3, u4, u5, u6, u7] xs) A' xs.length c').toArray 47 (0, 0)) := by rw [hW2]; exact PB0
    have PC' : Chg (fun k => k = w.heap.size) wm W := by rw [hW2]; exact PC0.drew
    clear PB0 PC0 hW2
    clear PB PC hW
    have z0 : W.cell? ⟨w.heap.size, 0, none⟩ = some (.int .i64 u1) := by rw [cellAt PB']; rfl
    have z1 : W.cell? ⟨w.heap.size, 1, none⟩ = some (.int .i64 u2) := by rw [cellAt PB']; rfl
    have z2 : W.cell? ⟨w.heap.size, 2, none⟩ = some (.int .i64 u3) := by rw [cellAt PB']; rfl
    have z3 : W.cell? ⟨w.heap.size, 3, none⟩ = some (.int .i64 u4) := by rw [cellAt PB']; rfl
    have z4 : W.cell? ⟨w.heap.size, 4, none⟩ = some (.int .i64 u5) := by rw [cellAt PB']; rfl
    have z5 : W.cell? ⟨w.heap.size, 5, none⟩ = some (.int .i64 u6) := by rw [cellAt PB']; rfl
    have z6 : W.cell? ⟨w.heap.size, 6, none⟩ = some (.int .i64 u7) := by rw [cellAt PB']; rfl
    have z7 : W.cell? ⟨w.heap.size, 7, none⟩ = some (.slice A' xs.length c') := by rw [cellAt PB']; rfl
    refine bodyPost_ret (v := .tuple #[.agg #[.int .i64 u1, .int .i64 u2, .int .i64 u3, .int .i64 u4, .int .i64 u5, .int .i64 u6, .int .i64 u7, .slice A' xs.length c'], .bool false]) (by simp [results, Try.results27, go_sem, z0, z1, z2, z3, z4, z5, z6, z7]) rfl ?_
    have sm := HSM.out
    have hsa' := hsa.out
    exact ⟨mkMsg [u1, u2, u3, u4, u5, u6, u7] xs, A', xs.length, c', false, rfl, parseMsgR_bad EL.out, WF.out, (((HXM.out).chg PC' (fun k hk e => by have q1 : wa.heap.size ≤ k := hk.1; have q2 : w.heap.size < p := hpw; omega)).mono (fun k hk => Nat.le_trans hsa' hk.1)), (CE.out).trans PC' (fun k hk hl => by subst hk; exact absurd hl (Nat.lt_irrefl _))⟩
  | false =>
    have hd2 : ∀ wx, Chg (fun k => k = w.heap.size) wm wx → wx.cell? ⟨g, 2, none⟩ = some (.bool false) := fun wx hx => hx.cell d2 (by show ¬ g = _; omega)
    clear d0 d1 d2
    have PG := hid (parseMsgR_good EL.out)
    by_cases hat : atl = n
    case neg =>
      have hb : ((atl : Int) == (n : Int)) = false := by simpa using (fun h => hat (by omega) : ¬ (atl : Int) = (n : Int))
      have PN := hid (show parseMsgR b = none by rw [PG.out, if_neg]; rintro ⟨h1, _⟩; have h2 := congrArg List.length h1; have h3 := HLE.out; have h4 := HN.out; rw [List.length_drop] at h2; simp at h2; omega)
      clear hat
      go_wp2_with fail
      refine wpB_start (fun wx : World => Chg (fun k => k = w.heap.size) wm wx) (by kernel_rfl) ?_
      have hHeld : (fun wx : World => Chg (fun k => k = w.heap.size) wm wx) _ := (by first | assumption | exact Chg.drew (Chg.refl _ _) | (show _ ∧ _; refine ⟨?_, ?_⟩ <;> assumption) | (first | (with_reducible exact hHeld.trans HZ.out (fun _ h _ => h.elim)) | (with_reducible exact ((((((((hHeld.set (p := ⟨w.heap.size, 0, none⟩) (fun _ => rfl) (.int .i64 u1)).set (p := ⟨w.heap.size, 1, none⟩) (fun _ => rfl) (.int .i64 u2)).set (p := ⟨w.heap.size, 2, none⟩) (fun _ => rfl) (.int .i64 u3)).set (p := ⟨w.heap.size, 3, none⟩) (fun _ => rfl) (.int .i64 u4)).set (p := ⟨w.heap.size, 4, none⟩) (fun _ => rfl) (.int .i64 u5)).set (p := ⟨w.heap.size, 5, none⟩) (fun _ => rfl) (.int .i64 u6)).set (p := ⟨w.heap.size, 6, none⟩) (fun _ => rfl) (.int .i64 u7)).set (p := ⟨w.heap.size, 7, none⟩) (fun _ => rfl) (.slice A' xs.length c'))) | (with_reducible exact ((((((((((Chg.refl (fun k => k = w.heap.size) wm).set (p := ⟨w.heap.size, 0, none⟩) (fun _ => rfl) (.int .i64 u1)).set (p := ⟨w.heap.size, 1, none⟩) (fun _ => rfl) (.int .i64 u2)).set (p := ⟨w.heap.size, 2, none⟩) (fun _ => rfl) (.int .i64 u3)).set (p := ⟨w.heap.size, 3, none⟩) (fun _ => rfl) (.int .i64 u4)).set (p := ⟨w.heap.size, 4, none⟩) (fun _ => rfl) (.int .i64 u5)).set (p := ⟨w.heap.size, 5, none⟩) (fun _ => rfl) (.int .i64 u6)).set (p := ⟨w.heap.size, 6, none⟩) (fun _ => rfl) (.int .i64 u7)).set (p := ⟨w.heap.size, 7, none⟩) (fun _ => rfl) (.slice A' xs.length c'))).drew)))
      -- 0: t27 := load 47 t5 : 47
      refine wpB_take (i := 0) (v := ?_) (get_of_drop rfl) (by kernel_rfl) (by kernel_rfl) (by kernel_rfl) (by kernel_rfl) (fun _ _ _ h => h) (Or.inl ⟨by rfl, ?_⟩) hHeld ?_
      rotate_left
      · (intro w hSw; (try dsimp only at hSw); go_simp <;> with_reducible rfl)
      try simp only [Act.put, List.setIfInBounds_toArray, List.set_cons_zero, List.set_cons_succ]
      -- 1: t28 := move t4 : 85
      refine wpB_take (i := 1) (v := ?_) (get_of_drop rfl) (by kernel_rfl) (by kernel_rfl) (by kernel_rfl) (by kernel_rfl) (fun _ _ _ h => h) (Or.inl ⟨by rfl, ?_⟩) hHeld ?_
      rotate_left
      · (intro w hSw; (try dsimp only at hSw); go_simp <;> with_reducible rfl)
      try simp only [Act.put, List.setIfInBounds_toArray, List.set_cons_zero, List.set_cons_succ]
      -- 2: t29 := nilCheck t28 : 0
      refine wpB_take (i := 2) (v := ?_) (get_of_drop rfl) (by kernel_rfl) (by kernel_rfl) (by kernel_rfl) (by kernel_rfl) (fun _ _ _ h => h) (Or.inl ⟨by rfl, ?_⟩) hHeld ?_
      rotate_left
      · (intro w hSw; (try dsimp only at hSw); go_simp <;> with_reducible rfl)
      try simp only [Act.put, List.setIfInBounds_toArray, List.set_cons_zero, List.set_cons_succ]
      -- 3: t30 := fieldAddr 87 t29 2 : 0
      refine wpB_take (i := 3) (v := ?_) (get_of_drop rfl) (by kernel_rfl) (by kernel_rfl) (by kernel_rfl) (by kernel_rfl) (fun _ _ _ h => h) (Or.inl ⟨by rfl, ?_⟩) hHeld ?_
      rotate_left
      · (intro w hSw; (try dsimp only at hSw); go_simp <;> with_reducible rfl)
      try simp only [Act.put, List.setIfInBounds_toArray, List.set_cons_zero, List.set_cons_succ]
      -- 4: t31 := load 4 t30 : 4
      refine wpB_take (i := 4) (v := ?_) (get_of_drop rfl) (by kernel_rfl) (by kernel_rfl) (by kernel_rfl) (by kernel_rfl) (fun _ _ _ h => h) (Or.inl ⟨by rfl, ?_⟩) hHeld ?_
      rotate_left
      · (intro w hSw; (try dsimp only at hSw); go_simp <;> with_reducible rfl)
      try simp only [Act.put, List.setIfInBounds_toArray, List.set_cons_zero, List.set_cons_succ]
      -- 5: t32 := unOp UnOp.not 4 t31 : 4
      refine wpB_take (i := 5) (v := ?_) (get_of_drop rfl) (by kernel_rfl) (by kernel_rfl) (by kernel_rfl) (by kernel_rfl) (fun _ _ _ h => h) (Or.inl ⟨by rfl, ?_⟩) hHeld ?_
      rotate_left
      · (intro w hSw; (try dsimp only at hSw); go_simp <;> with_reducible rfl)
      try simp only [Act.put, List.setIfInBounds_toArray, List.set_cons_zero, List.set_cons_succ]
      -- 6: t33 := move t32 : 4
      refine wpB_take (i := 6) (v := ?_) (get_of_drop rfl) (by kernel_rfl) (by kernel_rfl) (by kernel_rfl) (by kernel_rfl) (fun _ _ _ h => h) (Or.inl ⟨by rfl, ?_⟩) hHeld ?_
      rotate_left
      · (intro w hSw; (try dsimp only at hSw); go_simp <;> with_reducible rfl)
      try simp only [Act.put, List.setIfInBounds_toArray, List.set_cons_zero, List.set_cons_succ]
      -- 7: t34 := move t4 : 85   [if ⟨6, true⟩]
      refine wpB_take (i := 7) (v := ?_) (get_of_drop rfl) (by kernel_rfl) (by kernel_rfl) (by kernel_rfl) (by kernel_rfl) (fun _ _ _ h => h) (Or.inl ⟨by rfl, ?_⟩) hHeld ?_
      rotate_left
      · (intro w hSw; (try dsimp only at hSw); go_simp <;> with_reducible rfl)
      try simp only [Act.put, List.setIfInBounds_toArray, List.set_cons_zero, List.set_cons_succ]
      -- 8: t35 := nilCheck t34 : 0   [if ⟨6, true⟩]
      refine wpB_take (i := 8) (v := ?_) (get_of_drop rfl) (by kernel_rfl) (by kernel_rfl) (by kernel_rfl) (by kernel_rfl) (fun _ _ _ h => h) (Or.inl ⟨by rfl, ?_⟩) hHeld ?_
      rotate_left
      · (intro w hSw; (try dsimp only at hSw); go_simp <;> with_reducible rfl)
      try simp only [Act.put, List.setIfInBounds_toArray, List.set_cons_zero, List.set_cons_succ]
      -- 9: t36 := fieldAddr 87 t35 1 : 0   [if ⟨6, true⟩]
      refine wpB_take (i := 9) (v := ?_) (get_of_drop rfl) (by kernel_rfl) (by kernel_rfl) (by kernel_rfl) (by kernel_rfl) (fun _ _ _ h => h) (Or.inl ⟨by rfl, ?_⟩) hHeld ?_
      rotate_left
      · (intro w hSw; (try dsimp only at hSw); go_simp <;> with_reducible rfl)
      try simp only [Act.put, List.setIfInBounds_toArray, List.set_cons_zero, List.set_cons_succ]
      -- 10: t37 := load 3 t36 : 3   [if ⟨6, true⟩]
      refine wpB_take (i := 10) (v := ?_) (get_of_drop rfl) (by kernel_rfl) (by kernel_rfl) (by kernel_rfl) (by kernel_rfl) (fun _ _ _ h => h) (Or.inl ⟨by rfl, ?_⟩) hHeld ?_
      rotate_left
      · (intro w hSw; (try dsimp only at hSw); go_simp <;> with_reducible rfl)
      try simp only [Act.put, List.setIfInBounds_toArray, List.set_cons_zero, List.set_cons_succ]
      -- 11: t38 := move t0 : 25   [if ⟨6, true⟩]
      refine wpB_take (i := 11) (v := ?_) (get_of_drop rfl) (by kernel_rfl) (by kernel_rfl) (by kernel_rfl) (by kernel_rfl) (fun _ _ _ h => h) (Or.inl ⟨by rfl, ?_⟩) hHeld ?_
      rotate_left
      · (intro w hSw; (try dsimp only at hSw); go_simp <;> with_reducible rfl)
      try simp only [Act.put, List.setIfInBounds_toArray, List.set_cons_zero, List.set_cons_succ]
      -- 12: t39 := len(t38) types [25] : 3   [if ⟨6, true⟩]
      refine wpB_take (i := 12) (v := ?_) (get_of_drop rfl) (by kernel_rfl) (by kernel_rfl) (by kernel_rfl) (by kernel_rfl) (fun _ _ _ h => h) (Or.inl ⟨by rfl, ?_⟩) hHeld ?_
      rotate_left
      · (intro w hSw; (try dsimp only at hSw); go_simp <;> with_reducible rfl)
      try simp only [Act.put, List.setIfInBounds_toArray, List.set_cons_zero, List.set_cons_succ]
      -- 13: t40 := binOp BinOp.eql 3 t37 t39 3 : 4   [if ⟨6, true⟩]
      refine wpB_take (i := 13) (v := ?_) (get_of_drop rfl) (by kernel_rfl) (by kernel_rfl) (by kernel_rfl) (by kernel_rfl) (fun _ _ _ h => h) (Or.inl ⟨by rfl, ?_⟩) hHeld ?_
      rotate_left
      · (intro w hSw; (try dsimp only at hSw); go_simp <;> with_reducible rfl)
      try simp only [Act.put, List.setIfInBounds_toArray, List.set_cons_zero, List.set_cons_succ]
      -- 14: t41 := pick t33 t40 #false : 4
      refine wpB_take (i := 14) (v := ?_) (get_of_drop rfl) (by kernel_rfl) (by kernel_rfl) (by kernel_rfl) (by kernel_rfl) (fun _ _ _ h => h) (Or.inl ⟨by rfl, ?_⟩) hHeld ?_
      rotate_left
      · (intro w hSw; (try dsimp only at hSw); go_simp <;> with_reducible rfl)
      try simp only [Act.put, List.setIfInBounds_toArray, List.set_cons_zero, List.set_cons_succ]
      -- 15: t42 := move t41 : 4
      refine wpB_take (i := 15) (v := ?_) (get_of_drop rfl) (by kernel_rfl) (by kernel_rfl) (by kernel_rfl) (by kernel_rfl) (fun _ _ _ h => h) (Or.inl ⟨by rfl, ?_⟩) hHeld ?_
      rotate_left
      · (intro w hSw; (try dsimp only at hSw); go_simp <;> with_reducible rfl)
      try simp only [Act.put, List.setIfInBounds_toArray, List.set_cons_zero, List.set_cons_succ]
      -- 16: t43 := move t0 : 25   [if ⟨15, true⟩]
      refine wpB_take (i := 16) (v := undef) (get_of_drop rfl) (by kernel_rfl) (by kernel_rfl) (by kernel_rfl) (by kernel_rfl) (fun _ _ _ h => h) (Or.inr ⟨by rfl, rfl⟩) hHeld ?_
      try simp only [Act.put, List.setIfInBounds_toArray, List.set_cons_zero, List.set_cons_succ]
      -- 17: t44 := len(t43) types [25] : 3   [if ⟨15, true⟩]
      refine wpB_take (i := 17) (v := undef) (get_of_drop rfl) (by kernel_rfl) (by kernel_rfl) (by kernel_rfl) (by kernel_rfl) (fun _ _ _ h => h) (Or.inr ⟨by rfl, rfl⟩) hHeld ?_
      try simp only [Act.put, List.setIfInBounds_toArray, List.set_cons_zero, List.set_cons_succ]
      -- 18: t45 := binOp BinOp.leq 3 t44 #i64:65536 3 : 4   [if ⟨15, true⟩]
      refine wpB_take (i := 18) (v := undef) (get_of_drop rfl) (by kernel_rfl) (by kernel_rfl) (by kernel_rfl) (by kernel_rfl) (fun _ _ _ h => h) (Or.inr ⟨by rfl, rfl⟩) hHeld ?_
      try simp only [Act.put, List.setIfInBounds_toArray, List.set_cons_zero, List.set_cons_succ]
      -- 19: t46 := pick t42 t45 #false : 4
      refine wpB_take (i := 19) (v := ?_) (get_of_drop rfl) (by kernel_rfl) (by kernel_rfl) (by kernel_rfl) (by kernel_rfl) (fun _ _ _ h => h) (Or.inl ⟨by rfl, ?_⟩) hHeld ?_
      rotate_left
      · (intro w hSw; (try dsimp only at hSw); go_simp <;> with_reducible rfl)
      try simp only [Act.put, List.setIfInBounds_toArray, List.set_cons_zero, List.set_cons_succ]
      -- 20: t47 := move t46 : 4
      refine wpB_take (i := 20) (v := ?_) (get_of_drop rfl) (by kernel_rfl) (by kernel_rfl) (by kernel_rfl) (by kernel_rfl) (fun _ _ _ h => h) (Or.inl ⟨by rfl, ?_⟩) hHeld ?_
      rotate_left
      · (intro w hSw; (try dsimp only at hSw); go_simp <;> with_reducible rfl)
      try simp only [Act.put, List.setIfInBounds_toArray, List.set_cons_zero, List.set_cons_succ]
      -- 21: t48 := load 47 t5 : 47   [if ⟨20, true⟩]
      refine wpB_take (i := 21) (v := undef) (get_of_drop rfl) (by kernel_rfl) (by kernel_rfl) (by kernel_rfl) (by kernel_rfl) (fun _ _ _ h => h) (Or.inr ⟨by rfl, rfl⟩) hHeld ?_
      try simp only [Act.put, List.setIfInBounds_toArray, List.set_cons_zero, List.set_cons_succ]
      -- 22: t49 := CALL fn24(t48) : 4   [if ⟨20, true⟩]
      refine wpB_take (i := 22) (v := undef) (get_of_drop rfl) (by kernel_rfl) (by kernel_rfl) (by kernel_rfl) (by kernel_rfl) (fun _ _ _ h => h) (Or.inr ⟨by rfl, rfl⟩) hHeld ?_
      try simp only [Act.put, List.setIfInBounds_toArray, List.set_cons_zero, List.set_cons_succ]
      -- 23: t50 := pick t47 t49 #false : 4
      refine wpB_take (i := 23) (v := ?_) (get_of_drop rfl) (by kernel_rfl) (by kernel_rfl) (by kernel_rfl) (by kernel_rfl) (fun _ _ _ h => h) (Or.inl ⟨by rfl, ?_⟩) hHeld ?_
      rotate_left
      · (intro w hSw; (try dsimp only at hSw); go_simp <;> with_reducible rfl)
      try simp only [Act.put, List.setIfInBounds_toArray, List.set_cons_zero, List.set_cons_succ]
      -- 24: t- := store 47 t2 t27 : 0
      refine wpB_act (i := 24) (by kernel_rfl) (get_of_drop rfl) (fun K hK => ?_)
      go_simp
      refine hK.out _ _ ?_ (fun hHeld2 => ?_)
      · (first | (with_reducible exact hHeld.trans HZ.out (fun _ h _ => h.elim)) | (with_reducible exact ((((((((hHeld.set (p := ⟨w.heap.size, 0, none⟩) (fun _ => rfl) (.int .i64 u1)).set (p := ⟨w.heap.size, 1, none⟩) (fun _ => rfl) (.int .i64 u2)).set (p := ⟨w.heap.size, 2, none⟩) (fun _ => rfl) (.int .i64 u3)).set (p := ⟨w.heap.size, 3, none⟩) (fun _ => rfl) (.int .i64 u4)).set (p := ⟨w.heap.size, 4, none⟩) (fun _ => rfl) (.int .i64 u5)).set (p := ⟨w.heap.size, 5, none⟩) (fun _ => rfl) (.int .i64 u6)).set (p := ⟨w.heap.size, 6, none⟩) (fun _ => rfl) (.int .i64 u7)).set (p := ⟨w.heap.size, 7, none⟩) (fun _ => rfl) (.slice A' xs.length c'))) | (with_reducible exact ((((((((((Chg.refl (fun k => k = w.heap.size) wm).set (p := ⟨w.heap.size, 0, none⟩) (fun _ => rfl) (.int .i64 u1)).set (p := ⟨w.heap.size, 1, none⟩) (fun _ => rfl) (.int .i64 u2)).set (p := ⟨w.heap.size, 2, none⟩) (fun _ => rfl) (.int .i64 u3)).set (p := ⟨w.heap.size, 3, none⟩) (fun _ => rfl) (.int .i64 u4)).set (p := ⟨w.heap.size, 4, none⟩) (fun _ => rfl) (.int .i64 u5)).set (p := ⟨w.heap.size, 5, none⟩) (fun _ => rfl) (.int .i64 u6)).set (p := ⟨w.heap.size, 6, none⟩) (fun _ => rfl) (.int .i64 u7)).set (p := ⟨w.heap.size, 7, none⟩) (fun _ => rfl) (.slice A' xs.length c'))).drew))
      clear hHeld hK K
      have hHeld := hHeld2
      clear hHeld2
      try simp only [Act.put, List.setIfInBounds_toArray, List.set_cons_zero, List.set_cons_succ]
      -- 25: t3 := assign t50 : 4
      refine wpB_take (i := 25) (v := ?_) (get_of_drop rfl) (by kernel_rfl) (by kernel_rfl) (by kernel_rfl) (by kernel_rfl) (fun _ _ _ h => h) (Or.inl ⟨by rfl, ?_⟩) hHeld ?_
      rotate_left
      · (intro w hSw; (try dsimp only at hSw); go_simp <;> with_reducible rfl)
      try simp only [Act.put, List.setIfInBounds_toArray, List.set_cons_zero, List.set_cons_succ]
      refine wpB_done (by kernel_rfl) ?_ _
      clear hHeld hd1 x0 y0 f0 x1 y1 f1 x2 y2 f2 x3 y3 f3 x4 y4 f4 x5 y5 f5 x6 y6 f6 x7 y7 f7
      clear hd2
      go_wp2_with fail
      obtain ⟨PB, PC⟩ := put_blk (msgCells (mkMsg [u1, u2, u3, u4, u5, u6, u7] xs) A' xs.length c') wm _ BM.out rfl
      generalize hW : ((((((((wm.setCell ⟨w.heap.size, 0, none⟩ (.int .i64 u1)).setCell ⟨w.heap.size, 1, none⟩ (.int .i64 u2)).setCell ⟨w.heap.size, 2, none⟩ (.int .i64 u3)).setCell ⟨w.heap.size, 3, none⟩ (.int .i64 u4)).setCell ⟨w.heap.size, 4, none⟩ (.int .i64 u5)).setCell ⟨w.heap.size, 5, none⟩ (.int .i64 u6)).setCell ⟨w.heap.size, 6, none⟩ (.int .i64 u7)).setCell ⟨w.heap.size, 7, none⟩ (.slice A' xs.length c')) = W0
      have PB0 : W0.heap[w.heap.size]? = some (.cells (msgCells (mkMsg [u1, u2, u3, u4, u5, u6, u7] xs) A' xs.length c').toArray 47 (0, 0)) := by rw [← hW]; exact PB
      have PC0 : Chg (fun k => k = w.heap.size) wm W0 := by rw [← hW]; exact PC
      obtain ⟨W, hW2⟩ : ∃ W, W = W0.drew := ⟨_, rfl⟩
      rw [← hW2]
      have PB' : W.heap[w.heap.size]? = some (.cells (msgCells (mkMsg [u1, u2, u3, u4, u5, u6, u7] xs) A' xs.length c').toArray 47 (0, 0)) := by rw [hW2]; exact PB0
      have PC' : Chg (fun k => k = w.heap.size) wm W := by rw [hW2]; exact PC0.drew
      clear PB0 PC0 hW2
      clear PB PC hW
      have z0 : W.cell? ⟨w.heap.size, 0, none⟩ = some (.int .i64 u1) := by rw [cellAt PB']; rfl
      have z1 : W.cell? ⟨w.heap.size, 1, none⟩ = some (.int .i64 u2) := by rw [cellAt PB']; rfl
      have z2 : W.cell? ⟨w.heap.size, 2, none⟩ = some (.int .i64 u3) := by rw [cellAt PB']; rfl
      have z3 : W.cell? ⟨w.heap.size, 3, none⟩ = some (.int .i64 u4) := by rw [cellAt PB']; rfl
      have z4 : W.cell? ⟨w.heap.size, 4, none⟩ = some (.int .i64 u5) := by rw [cellAt PB']; rfl
      have z5 : W.cell? ⟨w.heap.size, 5, none⟩ = some (.int .i64 u6) := by rw [cellAt PB']; rfl
      have z6 : W.cell? ⟨w.heap.size, 6, none⟩ = some (.int .i64 u7) := by rw [cellAt PB']; rfl
      have z7 : W.cell? ⟨w.heap.size, 7, none⟩ = some (.slice A' xs.length c') := by rw [cellAt PB']; rfl
      refine bodyPost_ret (v := .tuple #[.agg #[.int .i64 u1, .int .i64 u2, .int .i64 u3, .int .i64 u4, .int .i64 u5, .int .i64 u6, .int .i64 u7, .slice A' xs.length c'], .bool false]) (by simp [results, Try.results27, go_sem, z0, z1, z2, z3, z4, z5, z6, z7]) rfl ?_
      have sm := HSM.out
      have hsa' := hsa.out
      exact ⟨mkMsg [u1, u2, u3, u4, u5, u6, u7] xs, A', xs.length, c', false, rfl, PN.out, WF.out, (((HXM.out).chg PC' (fun k hk e => by have q1 : wa.heap.size ≤ k := hk.1; have q2 : w.heap.size < p := hpw; omega)).mono (fun k hk => Nat.le_trans hsa' hk.1)), (CE.out).trans PC' (fun k hk hl => by subst hk; exact absurd hl (Nat.lt_irrefl _))⟩
    subst hat
    have hb : ((atl : Int) == (atl : Int)) = true := by simp
    by_cases hbig : (atl : Int) ≤ 65536
    case neg =>
      have PN := hid (show parseMsgR b = none by rw [PG.out, if_neg]; rintro ⟨_, h1, _⟩; have h4 := HN.out; omega)
      have hbig2 : decide ((atl : Int) ≤ 65536) = false := decide_eq_false hbig
      go_wp2_with fail
      refine wpB_start (fun wx : World => Chg (fun k => k = w.heap.size) wm wx) (by kernel_rfl) ?_
      have hHeld : (fun wx : World => Chg (fun k => k = w.heap.size) wm wx) _ := (by first | assumption | exact Chg.drew (Chg.refl _ _) | (show _ ∧ _; refine ⟨?_, ?_⟩ <;> assumption) | (first | (with_reducible exact hHeld.trans HZ.out (fun _ h _ => h.elim)) | (with_reducible exact ((((((((hHeld.set (p := ⟨w.heap.size, 0, none⟩) (fun _ => rfl) (.int .i64 u1)).set (p := ⟨w.heap.size, 1, none⟩) (fun _ => rfl) (.int .i64 u2)).set (p := ⟨w.heap.size, 2, none⟩) (fun _ => rfl) (.int .i64 u3)).set (p := ⟨w.heap.size, 3, none⟩) (fun _ => rfl) (.int .i64 u4)).set (p := ⟨w.heap.size, 4, none⟩) (fun _ => rfl) (.int .i64 u5)).set (p := ⟨w.heap.size, 5, none⟩) (fun _ => rfl) (.int .i64 u6)).set (p := ⟨w.heap.size, 6, none⟩) (fun _ => rfl) (.int .i64 u7)).set (p := ⟨w.heap.size, 7, none⟩) (fun _ => rfl) (.slice A' xs.length c'))) | (with_reducible exact ((((((((((Chg.refl (fun k => k = w.heap.size) wm).set (p := ⟨w.heap.size, 0, none⟩) (fun _ => rfl) (.int .i64 u1)).set (p := ⟨w.heap.size, 1, none⟩) (fun _ => rfl) (.int .i64 u2)).set (p := ⟨w.heap.size, 2, none⟩) (fun _ => rfl) (.int .i64 u3)).set (p := ⟨w.heap.size, 3, none⟩) (fun _ => rfl) (.int .i64 u4)).set (p := ⟨w.heap.size, 4, none⟩) (fun _ => rfl) (.int .i64 u5)).set (p := ⟨w.heap.size, 5, none⟩) (fun _ => rfl) (.int .i64 u6)).set (p := ⟨w.heap.size, 6, none⟩) (fun _ => rfl) (.int .i64 u7)).set (p := ⟨w.heap.size, 7, none⟩) (fun _ => rfl) (.slice A' xs.length c'))).drew)))
      -- 0: t27 := load 47 t5 : 47
      refine wpB_take (i := 0) (v := ?_) (get_of_drop rfl) (by kernel_rfl) (by kernel_rfl) (by kernel_rfl) (by kernel_rfl) (fun _ _ _ h => h) (Or.inl ⟨by rfl, ?_⟩) hHeld ?_
      rotate_left
      · (intro w hSw; (try dsimp only at hSw); go_simp <;> with_reducible rfl)
      try simp only [Act.put, List.setIfInBounds_toArray, List.set_cons_zero, List.set_cons_succ]
      -- 1: t28 := move t4 : 85
      refine wpB_take (i := 1) (v := ?_) (get_of_drop rfl) (by kernel_rfl) (by kernel_rfl) (by kernel_rfl) (by kernel_rfl) (fun _ _ _ h => h) (Or.inl ⟨by rfl, ?_⟩) hHeld ?_
      rotate_left
      · (intro w hSw; (try dsimp only at hSw); go_simp <;> with_reducible rfl)
      try simp only [Act.put, List.setIfInBounds_toArray, List.set_cons_zero, List.set_cons_succ]
      -- 2: t29 := nilCheck t28 : 0
      refine wpB_take (i := 2) (v := ?_) (get_of_drop rfl) (by kernel_rfl) (by kernel_rfl) (by kernel_rfl) (by kernel_rfl) (fun _ _ _ h => h) (Or.inl ⟨by rfl, ?_⟩) hHeld ?_
      rotate_left
      · (intro w hSw; (try dsimp only at hSw); go_simp <;> with_reducible rfl)
      try simp only [Act.put, List.setIfInBounds_toArray, List.set_cons_zero, List.set_cons_succ]
      -- 3: t30 := fieldAddr 87 t29 2 : 0
      refine wpB_take (i := 3) (v := ?_) (get_of_drop rfl) (by kernel_rfl) (by kernel_rfl) (by kernel_rfl) (by kernel_rfl) (fun _ _ _ h => h) (Or.inl ⟨by rfl, ?_⟩) hHeld ?_
      rotate_left
      · (intro w hSw; (try dsimp only at hSw); go_simp <;> with_reducible rfl)
      try simp only [Act.put, List.setIfInBounds_toArray, List.set_cons_zero, List.set_cons_succ]
      -- 4: t31 := load 4 t30 : 4
      refine wpB_take (i := 4) (v := ?_) (get_of_drop rfl) (by kernel_rfl) (by kernel_rfl) (by kernel_rfl) (by kernel_rfl) (fun _ _ _ h => h) (Or.inl ⟨by rfl, ?_⟩) hHeld ?_
      rotate_left
      · (intro w hSw; (try dsimp only at hSw); go_simp <;> with_reducible rfl)
      try simp only [Act.put, List.setIfInBounds_toArray, List.set_cons_zero, List.set_cons_succ]
      -- 5: t32 := unOp UnOp.not 4 t31 : 4
      refine wpB_take (i := 5) (v := ?_) (get_of_drop rfl) (by kernel_rfl) (by kernel_rfl) (by kernel_rfl) (by kernel_rfl) (fun _ _ _ h => h) (Or.inl ⟨by rfl, ?_⟩) hHeld ?_
      rotate_left
      · (intro w hSw; (try dsimp only at hSw); go_simp <;> with_reducible rfl)
      try simp only [Act.put, List.setIfInBounds_toArray, List.set_cons_zero, List.set_cons_succ]
      -- 6: t33 := move t32 : 4
      refine wpB_take (i := 6) (v := ?_) (get_of_drop rfl) (by kernel_rfl) (by kernel_rfl) (by kernel_rfl) (by kernel_rfl) (fun _ _ _ h => h) (Or.inl ⟨by rfl, ?_⟩) hHeld ?_
      rotate_left
      · (intro w hSw; (try dsimp only at hSw); go_simp <;> with_reducible rfl)
      try simp only [Act.put, List.setIfInBounds_toArray, List.set_cons_zero, List.set_cons_succ]
      -- 7: t34 := move t4 : 85   [if ⟨6, true⟩]
      refine wpB_take (i := 7) (v := ?_) (get_of_drop rfl) (by kernel_rfl) (by kernel_rfl) (by kernel_rfl) (by kernel_rfl) (fun _ _ _ h => h) (Or.inl ⟨by rfl, ?_⟩) hHeld ?_
      rotate_left
      · (intro w hSw; (try dsimp only at hSw); go_simp <;> with_reducible rfl)
      try simp only [Act.put, List.setIfInBounds_toArray, List.set_cons_zero, List.set_cons_succ]
      -- 8: t35 := nilCheck t34 : 0   [if ⟨6, true⟩]
      refine wpB_take (i := 8) (v := ?_) (get_of_drop rfl) (by kernel_rfl) (by kernel_rfl) (by kernel_rfl) (by kernel_rfl) (fun _ _ _ h => h) (Or.inl ⟨by rfl, ?_⟩) hHeld ?_
      rotate_left
      · (intro w hSw; (try dsimp only at hSw); go_simp <;> with_reducible rfl)
      try simp only [Act.put, List.setIfInBounds_toArray, List.set_cons_zero, List.set_cons_succ]
      -- 9: t36 := fieldAddr 87 t35 1 : 0   [if ⟨6, true⟩]
      refine wpB_take (i := 9) (v := ?_) (get_of_drop rfl) (by kernel_rfl) (by kernel_rfl) (by kernel_rfl) (by kernel_rfl) (fun _ _ _ h => h) (Or.inl ⟨by rfl, ?_⟩) hHeld ?_
      rotate_left
      · (intro w hSw; (try dsimp only at hSw); go_simp <;> with_reducible rfl)
      try simp only [Act.put, List.setIfInBounds_toArray, List.set_cons_zero, List.set_cons_succ]
      -- 10: t37 := load 3 t36 : 3   [if ⟨6, true⟩]
      refine wpB_take (i := 10) (v := ?_) (get_of_drop rfl) (by kernel_rfl) (by kernel_rfl) (by kernel_rfl) (by kernel_rfl) (fun _ _ _ h => h) (Or.inl ⟨by rfl, ?_⟩) hHeld ?_
      rotate_left
      · (intro w hSw; (try dsimp only at hSw); go_simp <;> with_reducible rfl)
      try simp only [Act.put, List.setIfInBounds_toArray, List.set_cons_zero, List.set_cons_succ]
      -- 11: t38 := move t0 : 25   [if ⟨6, true⟩]
      refine wpB_take (i := 11) (v := ?_) (get_of_drop rfl) (by kernel_rfl) (by kernel_rfl) (by kernel_rfl) (by kernel_rfl) (fun _ _ _ h => h) (Or.inl ⟨by rfl, ?_⟩) hHeld ?_
      rotate_left
      · (intro w hSw; (try dsimp only at hSw); go_simp <;> with_reducible rfl)
      try simp only [Act.put, List.setIfInBounds_toArray, List.set_cons_zero, List.set_cons_succ]
      -- 12: t39 := len(t38) types [25] : 3   [if ⟨6, true⟩]
      refine wpB_take (i := 12) (v := ?_) (get_of_drop rfl) (by kernel_rfl) (by kernel_rfl) (by kernel_rfl) (by kernel_rfl) (fun _ _ _ h => h) (Or.inl ⟨by rfl, ?_⟩) hHeld ?_
      rotate_left
      · (intro w hSw; (try dsimp only at hSw); go_simp <;> with_reducible rfl)
      try simp only [Act.put, List.setIfInBounds_toArray, List.set_cons_zero, List.set_cons_succ]
      -- 13: t40 := binOp BinOp.eql 3 t37 t39 3 : 4   [if ⟨6, true⟩]
      refine wpB_take (i := 13) (v := ?_) (get_of_drop rfl) (by kernel_rfl) (by kernel_rfl) (by kernel_rfl) (by kernel_rfl) (fun _ _ _ h => h) (Or.inl ⟨by rfl, ?_⟩) hHeld ?_
      rotate_left
      · (intro w hSw; (try dsimp only at hSw); go_simp <;> with_reducible rfl)
      try simp only [Act.put, List.setIfInBounds_toArray, List.set_cons_zero, List.set_cons_succ]
      -- 14: t41 := pick t33 t40 #false : 4
      refine wpB_take (i := 14) (v := ?_) (get_of_drop rfl) (by kernel_rfl) (by kernel_rfl) (by kernel_rfl) (by kernel_rfl) (fun _ _ _ h => h) (Or.inl ⟨by rfl, ?_⟩) hHeld ?_
      rotate_left
      · (intro w hSw; (try dsimp only at hSw); go_simp <;> with_reducible rfl)
      try simp only [Act.put, List.setIfInBounds_toArray, List.set_cons_zero, List.set_cons_succ]
      -- 15: t42 := move t41 : 4
      refine wpB_take (i := 15) (v := ?_) (get_of_drop rfl) (by kernel_rfl) (by kernel_rfl) (by kernel_rfl) (by kernel_rfl) (fun _ _ _ h => h) (Or.inl ⟨by rfl, ?_⟩) hHeld ?_
      rotate_left
      · (intro w hSw; (try dsimp only at hSw); go_simp <;> with_reducible rfl)
      try simp only [Act.put, List.setIfInBounds_toArray, List.set_cons_zero, List.set_cons_succ]
      -- 16: t43 := move t0 : 25   [if ⟨15, true⟩]
      refine wpB_take (i := 16) (v := ?_) (get_of_drop rfl) (by kernel_rfl) (by kernel_rfl) (by kernel_rfl) (by kernel_rfl) (fun _ _ _ h => h) (Or.inl ⟨by rfl, ?_⟩) hHeld ?_
      rotate_left
      · (intro w hSw; (try dsimp only at hSw); go_simp <;> with_reducible rfl)
      try simp only [Act.put, List.setIfInBounds_toArray, List.set_cons_zero, List.set_cons_succ]
      -- 17: t44 := len(t43) types [25] : 3   [if ⟨15, true⟩]
      refine wpB_take (i := 17) (v := ?_) (get_of_drop rfl) (by kernel_rfl) (by kernel_rfl) (by kernel_rfl) (by kernel_rfl) (fun _ _ _ h => h) (Or.inl ⟨by rfl, ?_⟩) hHeld ?_
      rotate_left
      · (intro w hSw; (try dsimp only at hSw); go_simp <;> with_reducible rfl)
      try simp only [Act.put, List.setIfInBounds_toArray, List.set_cons_zero, List.set_cons_succ]
      -- 18: t45 := binOp BinOp.leq 3 t44 #i64:65536 3 : 4   [if ⟨15, true⟩]
      refine wpB_take (i := 18) (v := ?_) (get_of_drop rfl) (by kernel_rfl) (by kernel_rfl) (by kernel_rfl) (by kernel_rfl) (fun _ _ _ h => h) (Or.inl ⟨by rfl, ?_⟩) hHeld ?_
      rotate_left
      · (intro w hSw; (try dsimp only at hSw); go_simp <;> with_reducible rfl)
      try simp only [Act.put, List.setIfInBounds_toArray, List.set_cons_zero, List.set_cons_succ]
      -- 19: t46 := pick t42 t45 #false : 4
      refine wpB_take (i := 19) (v := ?_) (get_of_drop rfl) (by kernel_rfl) (by kernel_rfl) (by kernel_rfl) (by kernel_rfl) (fun _ _ _ h => h) (Or.inl ⟨by rfl, ?_⟩) hHeld ?_
      rotate_left
      · (intro w hSw; (try dsimp only at hSw); go_simp <;> with_reducible rfl)
      try simp only [Act.put, List.setIfInBounds_toArray, List.set_cons_zero, List.set_cons_succ]
      -- 20: t47 := move t46 : 4
      refine wpB_take (i := 20) (v := ?_) (get_of_drop rfl) (by kernel_rfl) (by kernel_rfl) (by kernel_rfl) (by kernel_rfl) (fun _ _ _ h => h) (Or.inl ⟨by rfl, ?_⟩) hHeld ?_
      rotate_left
      · (intro w hSw; (try dsimp only at hSw); go_simp <;> with_reducible rfl)
      try simp only [Act.put, List.setIfInBounds_toArray, List.set_cons_zero, List.set_cons_succ]
      -- 21: t48 := load 47 t5 : 47   [if ⟨20, true⟩]
      refine wpB_take (i := 21) (v := undef) (get_of_drop rfl) (by kernel_rfl) (by kernel_rfl) (by kernel_rfl) (by kernel_rfl) (fun _ _ _ h => h) (Or.inr ⟨by rfl, rfl⟩) hHeld ?_
      try simp only [Act.put, List.setIfInBounds_toArray, List.set_cons_zero, List.set_cons_succ]
      -- 22: t49 := CALL fn24(t48) : 4   [if ⟨20, true⟩]
      refine wpB_take (i := 22) (v := undef) (get_of_drop rfl) (by kernel_rfl) (by kernel_rfl) (by kernel_rfl) (by kernel_rfl) (fun _ _ _ h => h) (Or.inr ⟨by rfl, rfl⟩) hHeld ?_
      try simp only [Act.put, List.setIfInBounds_toArray, List.set_cons_zero, List.set_cons_succ]
      -- 23: t50 := pick t47 t49 #false : 4
      refine wpB_take (i := 23) (v := ?_) (get_of_drop rfl) (by kernel_rfl) (by kernel_rfl) (by kernel_rfl) (by kernel_rfl) (fun _ _ _ h => h) (Or.inl ⟨by rfl, ?_⟩) hHeld ?_
      rotate_left
      · (intro w hSw; (try dsimp only at hSw); go_simp <;> with_reducible rfl)
      try simp only [Act.put, List.setIfInBounds_toArray, List.set_cons_zero, List.set_cons_succ]
      -- 24: t- := store 47 t2 t27 : 0
      refine wpB_act (i := 24) (by kernel_rfl) (get_of_drop rfl) (fun K hK => ?_)
      go_simp
      refine hK.out _ _ ?_ (fun hHeld2 => ?_)
      · (first | (with_reducible exact hHeld.trans HZ.out (fun _ h _ => h.elim)) | (with_reducible exact ((((((((hHeld.set (p := ⟨w.heap.size, 0, none⟩) (fun _ => rfl) (.int .i64 u1)).set (p := ⟨w.heap.size, 1, none⟩) (fun _ => rfl) (.int .i64 u2)).set (p := ⟨w.heap.size, 2, none⟩) (fun _ => rfl) (.int .i64 u3)).set (p := ⟨w.heap.size, 3, none⟩) (fun _ => rfl) (.int .i64 u4)).set (p := ⟨w.heap.size, 4, none⟩) (fun _ => rfl) (.int .i64 u5)).set (p := ⟨w.heap.size, 5, none⟩) (fun _ => rfl) (.int .i64 u6)).set (p := ⟨w.heap.size, 6, none⟩) (fun _ => rfl) (.int .i64 u7)).set (p := ⟨w.heap.size, 7, none⟩) (fun _ => rfl) (.slice A' xs.length c'))) | (with_reducible exact ((((((((((Chg.refl (fun k => k = w.heap.size) wm).set (p := ⟨w.heap.size, 0, none⟩) (fun _ => rfl) (.int .i64 u1)).set (p := ⟨w.heap.size, 1, none⟩) (fun _ => rfl) (.int .i64 u2)).set (p := ⟨w.heap.size, 2, none⟩) (fun _ => rfl) (.int .i64 u3)).set (p := ⟨w.heap.size, 3, none⟩) (fun _ => rfl) (.int .i64 u4)).set (p := ⟨w.heap.size, 4, none⟩) (fun _ => rfl) (.int .i64 u5)).set (p := ⟨w.heap.size, 5, none⟩) (fun _ => rfl) (.int .i64 u6)).set (p := ⟨w.heap.size, 6, none⟩) (fun _ => rfl) (.int .i64 u7)).set (p := ⟨w.heap.size, 7, none⟩) (fun _ => rfl) (.slice A' xs.length c'))).drew))
      clear hHeld hK K
      have hHeld := hHeld2
      clear hHeld2
      try simp only [Act.put, List.setIfInBounds_toArray, List.set_cons_zero, List.set_cons_succ]
      -- 25: t3 := assign t50 : 4
      refine wpB_take (i := 25) (v := ?_) (get_of_drop rfl) (by kernel_rfl) (by kernel_rfl) (by kernel_rfl) (by kernel_rfl) (fun _ _ _ h => h) (Or.inl ⟨by rfl, ?_⟩) hHeld ?_
      rotate_left
      · (intro w hSw; (try dsimp only at hSw); go_simp <;> with_reducible rfl)
      try simp only [Act.put, List.setIfInBounds_toArray, List.set_cons_zero, List.set_cons_succ]
      refine wpB_done (by kernel_rfl) ?_ _
      clear hHeld hd1 x0 y0 f0 x1 y1 f1 x2 y2 f2 x3 y3 f3 x4 y4 f4 x5 y5 f5 x6 y6 f6 x7 y7 f7
      clear hd2
      go_wp2_with fail
      obtain ⟨PB, PC⟩ := put_blk (msgCells (mkMsg [u1, u2, u3, u4, u5, u6, u7] xs) A' xs.length c') wm _ BM.out rfl
      generalize hW : ((((((((wm.setCell ⟨w.heap.size, 0, none⟩ (.int .i64 u1)).setCell ⟨w.heap.size, 1, none⟩ (.int .i64 u2)).setCell ⟨w.heap.size, 2, none⟩ (.int .i64 u3)).setCell ⟨w.heap.size, 3, none⟩ (.int .i64 u4)).setCell ⟨w.heap.size, 4, none⟩ (.int .i64 u5)).setCell ⟨w.heap.size, 5, none⟩ (.int .i64 u6)).setCell ⟨w.heap.size, 6, none⟩ (.int .i64 u7)).setCell ⟨w.heap.size, 7, none⟩ (.slice A' xs.length c')) = W0
      have PB0 : W0.heap[w.heap.size]? = some (.cells (msgCells (mkMsg [u1, u2, u3, u4, u5, u6, u7] xs) A' xs.length c').toArray 47 (0, 0)) := by rw [← hW]; exact PB
      have PC0 : Chg (fun k => k = w.heap.size) wm W0 := by rw [← hW]; exact PC
      obtain ⟨W, hW2⟩ : ∃ W, W = W0.drew := ⟨_, rfl⟩
      rw [← hW2]
      have PB' : W.heap[w.heap.size]? = some (.cells (msgCells (mkMsg [u1, u2, u3, u4, u5, u6, u7] xs) A' xs.length c').toArray 47 (0, 0)) := by rw [hW2]; exact PB0
      have PC' : Chg (fun k => k = w.heap.size) wm W := by rw [hW2]; exact PC0.drew
      clear PB0 PC0 hW2
      clear PB PC hW
      have z0 : W.cell? ⟨w.heap.size, 0, none⟩ = some (.int .i64 u1) := by rw [cellAt PB']; rfl
      have z1 : W.cell? ⟨w.heap.size, 1, none⟩ = some (.int .i64 u2) := by rw [cellAt PB']; rfl
      have z2 : W.cell? ⟨w.heap.size, 2, none⟩ = some (.int .i64 u3) := by rw [cellAt PB']; rfl
      have z3 : W.cell? ⟨w.heap.size, 3, none⟩ = some (.int .i64 u4) := by rw [cellAt PB']; rfl
      have z4 : W.cell? ⟨w.heap.size, 4, none⟩ = some (.int .i64 u5) := by rw [cellAt PB']; rfl
      have z5 : W.cell? ⟨w.heap.size, 5, none⟩ = some (.int .i64 u6) := by rw [cellAt PB']; rfl
      have z6 : W.cell? ⟨w.heap.size, 6, none⟩ = some (.int .i64 u7) := by rw [cellAt PB']; rfl
      have z7 : W.cell? ⟨w.heap.size, 7, none⟩ = some (.slice A' xs.length c') := by rw [cellAt PB']; rfl
      refine bodyPost_ret (v := .tuple #[.agg #[.int .i64 u1, .int .i64 u2, .int .i64 u3, .int .i64 u4, .int .i64 u5, .int .i64 u6, .int .i64 u7, .slice A' xs.length c'], .bool false]) (by simp [results, Try.results27, go_sem, z0, z1, z2, z3, z4, z5, z6, z7]) rfl ?_
      have sm := HSM.out
      have hsa' := hsa.out
      exact ⟨mkMsg [u1, u2, u3, u4, u5, u6, u7] xs, A', xs.length, c', false, rfl, PN.out, WF.out, (((HXM.out).chg PC' (fun k hk e => by have q1 : wa.heap.size ≤ k := hk.1; have q2 : w.heap.size < p := hpw; omega)).mono (fun k hk => Nat.le_trans hsa' hk.1)), (CE.out).trans PC' (fun k hk hl => by subst hk; exact absurd hl (Nat.lt_irrefl _))⟩
    have HBG := hid hbig
    have hbig2 : decide ((atl : Int) ≤ 65536) = true := decide_eq_true hbig
    clear hbig
    go_wp2_with fail
    refine wpB_start (fun wx : World => Chg (fun k => k = w.heap.size) wm wx) (by kernel_rfl) ?_
    have hHeld : (fun wx : World => Chg (fun k => k = w.heap.size) wm wx) _ := (by first | assumption | exact Chg.drew (Chg.refl _ _) | (show _ ∧ _; refine ⟨?_, ?_⟩ <;> assumption) | (first | (with_reducible exact hHeld.trans HZ.out (fun _ h _ => h.elim)) | (with_reducible exact ((((((((hHeld.set (p := ⟨w.heap.size, 0, none⟩) (fun _ => rfl) (.int .i64 u1)).set (p := ⟨w.heap.size, 1, none⟩) (fun _ => rfl) (.int .i64 u2)).set (p := ⟨w.heap.size, 2, none⟩) (fun _ => rfl) (.int .i64 u3)).set (p := ⟨w.heap.size, 3, none⟩) (fun _ => rfl) (.int .i64 u4)).set (p := ⟨w.heap.size, 4, none⟩) (fun _ => rfl) (.int .i64 u5)).set (p := ⟨w.heap.size, 5, none⟩) (fun _ => rfl) (.int .i64 u6)).set (p := ⟨w.heap.size, 6, none⟩) (fun _ => rfl) (.int .i64 u7)).set (p := ⟨w.heap.size, 7, none⟩) (fun _ => rfl) (.slice A' xs.length c'))) | (with_reducible exact ((((((((((Chg.refl (fun k => k = w.heap.size) wm).set (p := ⟨w.heap.size, 0, none⟩) (fun _ => rfl) (.int .i64 u1)).set (p := ⟨w.heap.size, 1, none⟩) (fun _ => rfl) (.int .i64 u2)).set (p := ⟨w.heap.size, 2, none⟩) (fun _ => rfl) (.int .i64 u3)).set (p := ⟨w.heap.size, 3, none⟩) (fun _ => rfl) (.int .i64 u4)).set (p := ⟨w.heap.size, 4, none⟩) (fun _ => rfl) (.int .i64 u5)).set (p := ⟨w.heap.size, 5, none⟩) (fun _ => rfl) (.int .i64 u6)).set (p := ⟨w.heap.size, 6, none⟩) (fun _ => rfl) (.int .i64 u7)).set (p := ⟨w.heap.size, 7, none⟩) (fun _ => rfl) (.slice A' xs.length c'))).drew)))
    -- 0: t27 := load 47 t5 : 47
    refine wpB_take (i := 0) (v := ?_) (get_of_drop rfl) (by kernel_rfl) (by kernel_rfl) (by kernel_rfl) (by kernel_rfl) (fun _ _ _ h => h) (Or.inl ⟨by rfl, ?_⟩) hHeld ?_
    rotate_left
    · (intro w hSw; (try dsimp only at hSw); go_simp <;> with_reducible rfl)
    try simp only [Act.put, List.setIfInBounds_toArray, List.set_cons_zero, List.set_cons_succ]
    -- 1: t28 := move t4 : 85
    refine wpB_take (i := 1) (v := ?_) (get_of_drop rfl) (by kernel_rfl) (by kernel_rfl) (by kernel_rfl) (by kernel_rfl) (fun _ _ _ h => h) (Or.inl ⟨by rfl, ?_⟩) hHeld ?_
    rotate_left
    · (intro w hSw; (try dsimp only at hSw); go_simp <;> with_reducible rfl)
    try simp only [Act.put, List.setIfInBounds_toArray, List.set_cons_zero, List.set_cons_succ]
    -- 2: t29 := nilCheck t28 : 0
    refine wpB_take (i := 2) (v := ?_) (get_of_drop rfl) (by kernel_rfl) (by kernel_rfl) (by kernel_rfl) (by kernel_rfl) (fun _ _ _ h => h) (Or.inl ⟨by rfl, ?_⟩) hHeld ?_
    rotate_left
    · (intro w hSw; (try dsimp only at hSw); go_simp <;> with_reducible rfl)
    try simp only [Act.put, List.setIfInBounds_toArray, List.set_cons_zero, List.set_cons_succ]
    -- 3: t30 := fieldAddr 87 t29 2 : 0
    refine wpB_take (i := 3) (v := ?_) (get_of_drop rfl) (by kernel_rfl) (by kernel_rfl) (by kernel_rfl) (by kernel_rfl) (fun _ _ _ h => h) (Or.inl ⟨by rfl, ?_⟩) hHeld ?_
    rotate_left
    · (intro w hSw; (try dsimp only at hSw); go_simp <;> with_reducible rfl)
    try simp only [Act.put, List.setIfInBounds_toArray, List.set_cons_zero, List.set_cons_succ]
    -- 4: t31 := load 4 t30 : 4
    refine wpB_take (i := 4) (v := ?_) (get_of_drop rfl) (by kernel_rfl) (by kernel_rfl) (by kernel_rfl) (by kernel_rfl) (fun _ _ _ h => h) (Or.inl ⟨by rfl, ?_⟩) hHeld ?_
    rotate_left
    · (intro w hSw; (try dsimp only at hSw); go_simp <;> with_reducible rfl)
    try simp only [Act.put, List.setIfInBounds_toArray, List.set_cons_zero, List.set_cons_succ]
    -- 5: t32 := unOp UnOp.not 4 t31 : 4
    refine wpB_take (i := 5) (v := ?_) (get_of_drop rfl) (by kernel_rfl) (by kernel_rfl) (by kernel_rfl) (by kernel_rfl) (fun _ _ _ h => h) (Or.inl ⟨by rfl, ?_⟩) hHeld ?_
    rotate_left
    · (intro w hSw; (try dsimp only at hSw); go_simp <;> with_reducible rfl)
    try simp only [Act.put, List.setIfInBounds_toArray, List.set_cons_zero, List.set_cons_succ]
    -- 6: t33 := move t32 : 4
    refine wpB_take (i := 6) (v := ?_) (get_of_drop rfl) (by kernel_rfl) (by kernel_rfl) (by kernel_rfl) (by kernel_rfl) (fun _ _ _ h => h) (Or.inl ⟨by rfl, ?_⟩) hHeld ?_
    rotate_left
    · (intro w hSw; (try dsimp only at hSw); go_simp <;> with_reducible rfl)
    try simp only [Act.put, List.setIfInBounds_toArray, List.set_cons_zero, List.set_cons_succ]
    -- 7: t34 := move t4 : 85   [if ⟨6, true⟩]
    refine wpB_take (i := 7) (v := ?_) (get_of_drop rfl) (by kernel_rfl) (by kernel_rfl) (by kernel_rfl) (by kernel_rfl) (fun _ _ _ h => h) (Or.inl ⟨by rfl, ?_⟩) hHeld ?_
    rotate_left
    · (intro w hSw; (try dsimp only at hSw); go_simp <;> with_reducible rfl)
    try simp only [Act.put, List.setIfInBounds_toArray, List.set_cons_zero, List.set_cons_succ]
    -- 8: t35 := nilCheck t34 : 0   [if ⟨6, true⟩]
    refine wpB_take (i := 8) (v := ?_) (get_of_drop rfl) (by kernel_rfl) (by kernel_rfl) (by kernel_rfl) (by kernel_rfl) (fun _ _ _ h => h) (Or.inl ⟨by rfl, ?_⟩) hHeld ?_
    rotate_left
    · (intro w hSw; (try dsimp only at hSw); go_simp <;> with_reducible rfl)
    try simp only [Act.put, List.setIfInBounds_toArray, List.set_cons_zero, List.set_cons_succ]
    -- 9: t36 := fieldAddr 87 t35 1 : 0   [if ⟨6, true⟩]
    refine wpB_take (i := 9) (v := ?_) (get_of_drop rfl) (by kernel_rfl) (by kernel_rfl) (by kernel_rfl) (by kernel_rfl) (fun _ _ _ h => h) (Or.inl ⟨by rfl, ?_⟩) hHeld ?_
    rotate_left
    · (intro w hSw; (try dsimp only at hSw); go_simp <;> with_reducible rfl)
    try simp only [Act.put, List.setIfInBounds_toArray, List.set_cons_zero, List.set_cons_succ]
    -- 10: t37 := load 3 t36 : 3   [if ⟨6, true⟩]
    refine wpB_take (i := 10) (v := ?_) (get_of_drop rfl) (by kernel_rfl) (by kernel_rfl) (by kernel_rfl) (by kernel_rfl) (fun _ _ _ h => h) (Or.inl ⟨by rfl, ?_⟩) hHeld ?_
    rotate_left
    · (intro w hSw; (try dsimp only at hSw); go_simp <;> with_reducible rfl)
    try simp only [Act.put, List.setIfInBounds_toArray, List.set_cons_zero, List.set_cons_succ]
    -- 11: t38 := move t0 : 25   [if ⟨6, true⟩]
    refine wpB_take (i := 11) (v := ?_) (get_of_drop rfl) (by kernel_rfl) (by kernel_rfl) (by kernel_rfl) (by kernel_rfl) (fun _ _ _ h => h) (Or.inl ⟨by rfl, ?_⟩) hHeld ?_
    rotate_left
    · (intro w hSw; (try dsimp only at hSw); go_simp <;> with_reducible rfl)
    try simp only [Act.put, List.setIfInBounds_toArray, List.set_cons_zero, List.set_cons_succ]
    -- 12: t39 := len(t38) types [25] : 3   [if ⟨6, true⟩]
    refine wpB_take (i := 12) (v := ?_) (get_of_drop rfl) (by kernel_rfl) (by kernel_rfl) (by kernel_rfl) (by kernel_rfl) (fun _ _ _ h => h) (Or.inl ⟨by rfl, ?_⟩) hHeld ?_
    rotate_left
    · (intro w hSw; (try dsimp only at hSw); go_simp <;> with_reducible rfl)
    try simp only [Act.put, List.setIfInBounds_toArray, List.set_cons_zero, List.set_cons_succ]
    -- 13: t40 := binOp BinOp.eql 3 t37 t39 3 : 4   [if ⟨6, true⟩]
    refine wpB_take (i := 13) (v := ?_) (get_of_drop rfl) (by kernel_rfl) (by kernel_rfl) (by kernel_rfl) (by kernel_rfl) (fun _ _ _ h => h) (Or.inl ⟨by rfl, ?_⟩) hHeld ?_
    rotate_left
    · (intro w hSw; (try dsimp only at hSw); go_simp <;> with_reducible rfl)
    try simp only [Act.put, List.setIfInBounds_toArray, List.set_cons_zero, List.set_cons_succ]
    -- 14: t41 := pick t33 t40 #false : 4
    refine wpB_take (i := 14) (v := ?_) (get_of_drop rfl) (by kernel_rfl) (by kernel_rfl) (by kernel_rfl) (by kernel_rfl) (fun _ _ _ h => h) (Or.inl ⟨by rfl, ?_⟩) hHeld ?_
    rotate_left
    · (intro w hSw; (try dsimp only at hSw); go_simp <;> with_reducible rfl)
    try simp only [Act.put, List.setIfInBounds_toArray, List.set_cons_zero, List.set_cons_succ]
    -- 15: t42 := move t41 : 4
    refine wpB_take (i := 15) (v := ?_) (get_of_drop rfl) (by kernel_rfl) (by kernel_rfl) (by kernel_rfl) (by kernel_rfl) (fun _ _ _ h => h) (Or.inl ⟨by rfl, ?_⟩) hHeld ?_
    rotate_left
    · (intro w hSw; (try dsimp only at hSw); go_simp <;> with_reducible rfl)
    try simp only [Act.put, List.setIfInBounds_toArray, List.set_cons_zero, List.set_cons_succ]
    -- 16: t43 := move t0 : 25   [if ⟨15, true⟩]
    refine wpB_take (i := 16) (v := ?_) (get_of_drop rfl) (by kernel_rfl) (by kernel_rfl) (by kernel_rfl) (by kernel_rfl) (fun _ _ _ h => h) (Or.inl ⟨by rfl, ?_⟩) hHeld ?_
    rotate_left
    · (intro w hSw; (try dsimp only at hSw); go_simp <;> with_reducible rfl)
    try simp only [Act.put, List.setIfInBounds_toArray, List.set_cons_zero, List.set_cons_succ]
    -- 17: t44 := len(t43) types [25] : 3   [if ⟨15, true⟩]
    refine wpB_take (i := 17) (v := ?_) (get_of_drop rfl) (by kernel_rfl) (by kernel_rfl) (by kernel_rfl) (by kernel_rfl) (fun _ _ _ h => h) (Or.inl ⟨by rfl, ?_⟩) hHeld ?_
    rotate_left
    · (intro w hSw; (try dsimp only at hSw); go_simp <;> with_reducible rfl)
    try simp only [Act.put, List.setIfInBounds_toArray, List.set_cons_zero, List.set_cons_succ]
    -- 18: t45 := binOp BinOp.leq 3 t44 #i64:65536 3 : 4   [if ⟨15, true⟩]
    refine wpB_take (i := 18) (v := ?_) (get_of_drop rfl) (by kernel_rfl) (by kernel_rfl) (by kernel_rfl) (by kernel_rfl) (fun _ _ _ h => h) (Or.inl ⟨by rfl, ?_⟩) hHeld ?_
    rotate_left
    · (intro w hSw; (try dsimp only at hSw); go_simp <;> with_reducible rfl)
    try simp only [Act.put, List.setIfInBounds_toArray, List.set_cons_zero, List.set_cons_succ]
    -- 19: t46 := pick t42 t45 #false : 4
    refine wpB_take (i := 19) (v := ?_) (get_of_drop rfl) (by kernel_rfl) (by kernel_rfl) (by kernel_rfl) (by kernel_rfl) (fun _ _ _ h => h) (Or.inl ⟨by rfl, ?_⟩) hHeld ?_
    rotate_left
    · (intro w hSw; (try dsimp only at hSw); go_simp <;> with_reducible rfl)
    try simp only [Act.put, List.setIfInBounds_toArray, List.set_cons_zero, List.set_cons_succ]
    -- 20: t47 := move t46 : 4
    refine wpB_take (i := 20) (v := ?_) (get_of_drop rfl) (by kernel_rfl) (by kernel_rfl) (by kernel_rfl) (by kernel_rfl) (fun _ _ _ h => h) (Or.inl ⟨by rfl, ?_⟩) hHeld ?_
    rotate_left
    · (intro w hSw; (try dsimp only at hSw); go_simp <;> with_reducible rfl)
    try simp only [Act.put, List.setIfInBounds_toArray, List.set_cons_zero, List.set_cons_succ]
    -- 21: t48 := load 47 t5 : 47   [if ⟨20, true⟩]
    refine wpB_take (i := 21) (v := ?_) (get_of_drop rfl) (by kernel_rfl) (by kernel_rfl) (by kernel_rfl) (by kernel_rfl) (fun _ _ _ h => h) (Or.inl ⟨by rfl, ?_⟩) hHeld ?_
    rotate_left
    · (intro w hSw; (try dsimp only at hSw); go_simp <;> with_reducible rfl)
    try simp only [Act.put, List.setIfInBounds_toArray, List.set_cons_zero, List.set_cons_succ]
    -- 22: t49 := CALL fn24(t48) : 4   [if ⟨20, true⟩]
    refine wpB_act (i := 22) (by kernel_rfl) (get_of_drop rfl) (fun K hK => ?_)
    go_simp
    refine (refmsgright_any (m := mkMsg [u1, u2, u3, u4, u5, u6, u7] xs) (HXM.out.chg ((Chg.refl (fun _ => False) wm).drew) (fun _ _ h => h))).mono ?_
    rintro e wz ⟨rfl, h2⟩
    have yz0 : wz.cell? ⟨w.heap.size, 0, none⟩ = some (.int .i64 0) := h2.cell y0 (fun h => h)
    have fzz0 : wz.frozen? ⟨w.heap.size, 0, none⟩ = false := freeAt (h2.blk (show wm.drew.heap[w.heap.size]? = _ from BM.out) (fun h => h)) 0
    have yz1 : wz.cell? ⟨w.heap.size, 1, none⟩ = some (.int .i64 0) := h2.cell y1 (fun h => h)
    have fzz1 : wz.frozen? ⟨w.heap.size, 1, none⟩ = false := freeAt (h2.blk (show wm.drew.heap[w.heap.size]? = _ from BM.out) (fun h => h)) 1
    have yz2 : wz.cell? ⟨w.heap.size, 2, none⟩ = some (.int .i64 0) := h2.cell y2 (fun h => h)
    have fzz2 : wz.frozen? ⟨w.heap.size, 2, none⟩ = false := freeAt (h2.blk (show wm.drew.heap[w.heap.size]? = _ from BM.out) (fun h => h)) 2
    have yz3 : wz.cell? ⟨w.heap.size, 3, none⟩ = some (.int .i64 0) := h2.cell y3 (fun h => h)
    have fzz3 : wz.frozen? ⟨w.heap.size, 3, none⟩ = false := freeAt (h2.blk (show wm.drew.heap[w.heap.size]? = _ from BM.out) (fun h => h)) 3
    have yz4 : wz.cell? ⟨w.heap.size, 4, none⟩ = some (.int .i64 0) := h2.cell y4 (fun h => h)
    have fzz4 : wz.frozen? ⟨w.heap.size, 4, none⟩ = false := freeAt (h2.blk (show wm.drew.heap[w.heap.size]? = _ from BM.out) (fun h => h)) 4
    have yz5 : wz.cell? ⟨w.heap.size, 5, none⟩ = some (.int .i64 0) := h2.cell y5 (fun h => h)
    have fzz5 : wz.frozen? ⟨w.heap.size, 5, none⟩ = false := freeAt (h2.blk (show wm.drew.heap[w.heap.size]? = _ from BM.out) (fun h => h)) 5
    have yz6 : wz.cell? ⟨w.heap.size, 6, none⟩ = some (.int .i64 0) := h2.cell y6 (fun h => h)
    have fzz6 : wz.frozen? ⟨w.heap.size, 6, none⟩ = false := freeAt (h2.blk (show wm.drew.heap[w.heap.size]? = _ from BM.out) (fun h => h)) 6
    have yz7 : wz.cell? ⟨w.heap.size, 7, none⟩ = some (.slice none 0 0) := h2.cell y7 (fun h => h)
    have fzz7 : wz.frozen? ⟨w.heap.size, 7, none⟩ = false := freeAt (h2.blk (show wm.drew.heap[w.heap.size]? = _ from BM.out) (fun h => h)) 7
    have HZ := hid h2
    clear h2
    refine hK.out _ _ ?_ (fun hHeld2 => ?_)
    · (first | (with_reducible exact hHeld.trans HZ.out (fun _ h _ => h.elim)) | (with_reducible exact ((((((((hHeld.set (p := ⟨w.heap.size, 0, none⟩) (fun _ => rfl) (.int .i64 u1)).set (p := ⟨w.heap.size, 1, none⟩) (fun _ => rfl) (.int .i64 u2)).set (p := ⟨w.heap.size, 2, none⟩) (fun _ => rfl) (.int .i64 u3)).set (p := ⟨w.heap.size, 3, none⟩) (fun _ => rfl) (.int .i64 u4)).set (p := ⟨w.heap.size, 4, none⟩) (fun _ => rfl) (.int .i64 u5)).set (p := ⟨w.heap.size, 5, none⟩) (fun _ => rfl) (.int .i64 u6)).set (p := ⟨w.heap.size, 6, none⟩) (fun _ => rfl) (.int .i64 u7)).set (p := ⟨w.heap.size, 7, none⟩) (fun _ => rfl) (.slice A' xs.length c'))) | (with_reducible exact ((((((((((Chg.refl (fun k => k = w.heap.size) wm).set (p := ⟨w.heap.size, 0, none⟩) (fun _ => rfl) (.int .i64 u1)).set (p := ⟨w.heap.size, 1, none⟩) (fun _ => rfl) (.int .i64 u2)).set (p := ⟨w.heap.size, 2, none⟩) (fun _ => rfl) (.int .i64 u3)).set (p := ⟨w.heap.size, 3, none⟩) (fun _ => rfl) (.int .i64 u4)).set (p := ⟨w.heap.size, 4, none⟩) (fun _ => rfl) (.int .i64 u5)).set (p := ⟨w.heap.size, 5, none⟩) (fun _ => rfl) (.int .i64 u6)).set (p := ⟨w.heap.size, 6, none⟩) (fun _ => rfl) (.int .i64 u7)).set (p := ⟨w.heap.size, 7, none⟩) (fun _ => rfl) (.slice A' xs.length c'))).drew))
    clear hHeld hK K
    have hHeld := hHeld2
    clear hHeld2
    try simp only [Act.put, List.setIfInBounds_toArray, List.set_cons_zero, List.set_cons_succ]
    -- 23: t50 := pick t47 t49 #false : 4
    refine wpB_take (i := 23) (v := ?_) (get_of_drop rfl) (by kernel_rfl) (by kernel_rfl) (by kernel_rfl) (by kernel_rfl) (fun _ _ _ h => h) (Or.inl ⟨by rfl, ?_⟩) hHeld ?_
    rotate_left
    · (intro w hSw; (try dsimp only at hSw); go_simp <;> with_reducible rfl)
    try simp only [Act.put, List.setIfInBounds_toArray, List.set_cons_zero, List.set_cons_succ]
    -- 24: t- := store 47 t2 t27 : 0
    refine wpB_act (i := 24) (by kernel_rfl) (get_of_drop rfl) (fun K hK => ?_)
    go_simp
    refine hK.out _ _ ?_ (fun hHeld2 => ?_)
    · (first | (with_reducible exact hHeld.trans HZ.out (fun _ h _ => h.elim)) | (with_reducible exact ((((((((hHeld.set (p := ⟨w.heap.size, 0, none⟩) (fun _ => rfl) (.int .i64 u1)).set (p := ⟨w.heap.size, 1, none⟩) (fun _ => rfl) (.int .i64 u2)).set (p := ⟨w.heap.size, 2, none⟩) (fun _ => rfl) (.int .i64 u3)).set (p := ⟨w.heap.size, 3, none⟩) (fun _ => rfl) (.int .i64 u4)).set (p := ⟨w.heap.size, 4, none⟩) (fun _ => rfl) (.int .i64 u5)).set (p := ⟨w.heap.size, 5, none⟩) (fun _ => rfl) (.int .i64 u6)).set (p := ⟨w.heap.size, 6, none⟩) (fun _ => rfl) (.int .i64 u7)).set (p := ⟨w.heap.size, 7, none⟩) (fun _ => rfl) (.slice A' xs.length c'))) | (with_reducible exact ((((((((((Chg.refl (fun k => k = w.heap.size) wm).set (p := ⟨w.heap.size, 0, none⟩) (fun _ => rfl) (.int .i64 u1)).set (p := ⟨w.heap.size, 1, none⟩) (fun _ => rfl) (.int .i64 u2)).set (p := ⟨w.heap.size, 2, none⟩) (fun _ => rfl) (.int .i64 u3)).set (p := ⟨w.heap.size, 3, none⟩) (fun _ => rfl) (.int .i64 u4)).set (p := ⟨w.heap.size, 4, none⟩) (fun _ => rfl) (.int .i64 u5)).set (p := ⟨w.heap.size, 5, none⟩) (fun _ => rfl) (.int .i64 u6)).set (p := ⟨w.heap.size, 6, none⟩) (fun _ => rfl) (.int .i64 u7)).set (p := ⟨w.heap.size, 7, none⟩) (fun _ => rfl) (.slice A' xs.length c'))).drew))
    clear hHeld hK K
    have hHeld := hHeld2
    clear hHeld2
    try simp only [Act.put, List.setIfInBounds_toArray, List.set_cons_zero, List.set_cons_succ]
    -- 25: t3 := assign t50 : 4
    refine wpB_take (i := 25) (v := ?_) (get_of_drop rfl) (by kernel_rfl) (by kernel_rfl) (by kernel_rfl) (by kernel_rfl) (fun _ _ _ h => h) (Or.inl ⟨by rfl, ?_⟩) hHeld ?_
    rotate_left
    · (intro w hSw; (try dsimp only at hSw); go_simp <;> with_reducible rfl)
    try simp only [Act.put, List.setIfInBounds_toArray, List.set_cons_zero, List.set_cons_succ]
    refine wpB_done (by kernel_rfl) ?_ _
    have CZ := hid ((Chg.refl (fun _ => False) wm).drew.trans HZ.out (fun _ h _ => h))
    clear hHeld hd2 hd1 x0 y0 f0 x1 y1 f1 x2 y2 f2 x3 y3 f3 x4 y4 f4 x5 y5 f5 x6 y6 f6 x7 y7 f7 yz0 fzz0 yz1 fzz1 yz2 fzz2 yz3 fzz3 yz4 fzz4 yz5 fzz5 yz6 fzz6 yz7 fzz7
    obtain ⟨ok, hok⟩ : ∃ ok, ok = msgR (mkMsg [u1, u2, u3, u4, u5, u6, u7] xs) := ⟨_, rfl⟩
    have HOK := hid hok
    rw [← hok]
    clear hok
    go_wp2_with fail
    obtain ⟨PB, PC⟩ := put_blk (msgCells (mkMsg [u1, u2, u3, u4, u5, u6, u7] xs) A' xs.length c') wz _ (CZ.out.blk BM.out (fun h => h)) rfl
    generalize hW : ((((((((wz.setCell ⟨w.heap.size, 0, none⟩ (.int .i64 u1)).setCell ⟨w.heap.size, 1, none⟩ (.int .i64 u2)).setCell ⟨w.heap.size, 2, none⟩ (.int .i64 u3)).setCell ⟨w.heap.size, 3, none⟩ (.int .i64 u4)).setCell ⟨w.heap.size, 4, none⟩ (.int .i64 u5)).setCell ⟨w.heap.size, 5, none⟩ (.int .i64 u6)).setCell ⟨w.heap.size, 6, none⟩ (.int .i64 u7)).setCell ⟨w.heap.size, 7, none⟩ (.slice A' xs.length c')) = W
    have PB' : W.heap[w.heap.size]? = some (.cells (msgCells (mkMsg [u1, u2, u3, u4, u5, u6, u7] xs) A' xs.length c').toArray 47 (0, 0)) := by rw [← hW]; exact PB
    have PC' : Chg (fun k => k = w.heap.size) wz W := by rw [← hW]; exact PC
    clear PB PC hW
    have z0 : W.cell? ⟨w.heap.size, 0, none⟩ = some (.int .i64 u1) := by rw [cellAt PB']; rfl
    have z1 : W.cell? ⟨w.heap.size, 1, none⟩ = some (.int .i64 u2) := by rw [cellAt PB']; rfl
    have z2 : W.cell? ⟨w.heap.size, 2, none⟩ = some (.int .i64 u3) := by rw [cellAt PB']; rfl
    have z3 : W.cell? ⟨w.heap.size, 3, none⟩ = some (.int .i64 u4) := by rw [cellAt PB']; rfl
    have z4 : W.cell? ⟨w.heap.size, 4, none⟩ = some (.int .i64 u5) := by rw [cellAt PB']; rfl
    have z5 : W.cell? ⟨w.heap.size, 5, none⟩ = some (.int .i64 u6) := by rw [cellAt PB']; rfl
    have z6 : W.cell? ⟨w.heap.size, 6, none⟩ = some (.int .i64 u7) := by rw [cellAt PB']; rfl
    have z7 : W.cell? ⟨w.heap.size, 7, none⟩ = some (.slice A' xs.length c') := by rw [cellAt PB']; rfl
    refine bodyPost_ret (v := .tuple #[.agg #[.int .i64 u1, .int .i64 u2, .int .i64 u3, .int .i64 u4, .int .i64 u5, .int .i64 u6, .int .i64 u7, .slice A' xs.length c'], .bool ok]) (by simp [results, Try.results27, go_sem, z0, z1, z2, z3, z4, z5, z6, z7]) rfl ?_
    have sm := HSM.out
    have hsa' := hsa.out
    exact ⟨mkMsg [u1, u2, u3, u4, u5, u6, u7] xs, A', xs.length, c', ok, rfl, by rw [PG.out, HOK.out]; have h4 := HN.out; have h5 := HBG.out; by_cases hr : msgR (mkMsg [u1, u2, u3, u4, u5, u6, u7] xs) = true <;> simp [hr, ← h4]; omega, WF.out, (((HXM.out.chg CZ.out (fun _ _ h => h)).chg PC' (fun k hk e => by have q1 : wa.heap.size ≤ k := hk.1; have q2 : w.heap.size < p := hpw; omega)).mono (fun k hk => Nat.le_trans hsa' hk.1)), (CE.out.trans CZ.out (fun _ h _ => h)).trans PC' (fun k hk hl => by subst hk; exact absurd hl (Nat.lt_irrefl _))⟩
end Go.Proofs.Ytcmfgijdelaelaa.Pa
