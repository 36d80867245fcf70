/- Texts of this claim, one behind the other: PackZb, PackZc, PackEn, PackDe, PackDf, PackLaw, PackMa, PackMb, PackMc, PackMd. -/
import Derived.Test.YtfpjickdkkhndaaMD
import Derived.Test.YtfpjickdkkhndaaMC

/- The document's Parse and ParseRecord. -/

namespace Go.Proofs.Ytfpjickdkkhndaa.Pa

set_option linter.unusedVariables false

set_option linter.unusedSimpArgs false

open Go.RowKit Go.Proofs.Ytfpjickdkkhndaa.C

attribute [local go_sem] max2_int min2_int max_two min_two

def rdRecR : List UInt8 → Option (Rec × List UInt8) := thenRd (rdList rdNum 3) (rdSeq 1 rdEntryR) mkRec
def parseRecR (b : List UInt8) : Option Rec := (rdRecR b).bind fun q => if q.2 = [] ∧ b.length ≤ 65536 ∧ recR q.1 = true then some q.1 else none
def ParsedRec (w : World) (b : List UInt8) (e' : Ending) (w' : World) : Prop :=
  ∃ (m : Rec) (A' : Option Addr) (n' c' : Nat) (ok : Bool), e' = .returned (.tuple #[.agg #[.int .i64 m.kind, .int .i64 m.a, .int .i64 m.b, .slice A' n' c'], .bool ok]) ∧ parseRecR b = (if ok = true then some m else none) ∧ (∀ u ∈ m.nums, (Lit.int .i64 u).wf = true) ∧ Ty.At entryK w' (fun k => w.heap.size ≤ k) A' n' c' m.log ∧ Chg (fun _ => False) w w'
theorem parseRecR_bad {b : List UInt8} {m : Rec} {at' : Nat} (h : (left b 0 false).bind rdRecR = (left b at' true).map fun r => (m, r)) : parseRecR b = none := by
  rw [left_some, List.drop_zero, Option.bind_some, left_none, Option.map_none] at h
  unfold parseRecR
  rw [h]
  rfl
theorem parseRecR_good {b : List UInt8} {m : Rec} {at' : Nat} (h : (left b 0 false).bind rdRecR = (left b at' false).map fun r => (m, r)) : parseRecR b = if b.drop at' = [] ∧ b.length ≤ 65536 ∧ recR m = true then some m else none := by
  rw [left_some, List.drop_zero, Option.bind_some, left_some, Option.map_some] at h
  unfold parseRecR
  rw [h]
  rfl
set_option maxHeartbeats 4000000 in
set_option maxRecDepth 100000 in
theorem parserec_any {w : World} {R : Nat → Prop} {A : Option Addr} {n c : Nat} {b : List UInt8} (h : Ty.At Ty.u8 w R A n c b) (hn : n ≤ 1000000) :
    Calls Try.prog 43 #[.slice A n c] w (ParsedRec w b) := by
  have HN := hid h.1
  have hn2 : (n : Int) ≤ 1000000 := by omega
  obtain ⟨g, hg⟩ : ∃ g, g = w.heap.size + 1 := ⟨_, rfl⟩
  obtain ⟨w0, hw0⟩ : ∃ w0, w0 = (w.alloc (.cells #[.int .i64 0, .int .i64 0, .int .i64 0, .slice none 0 0] 67)).alloc (.cells #[.slice A n c, .int .i64 0, .bool false] 118) := ⟨_, rfl⟩
  have C0 := hid (show Chg (fun _ => False) w w0 by rw [hw0]; exact ((Chg.refl _ w).alloc _).alloc _)
  have B0 := hid (show w0.heap[w.heap.size]? = some (.cells #[.int .i64 0, .int .i64 0, .int .i64 0, .slice none 0 0] 67 (0, 0)) by rw [hw0]; exact blk_alloc (blk_new w _) _)
  have G0 : w0.heap[g]? = some (.cells #[.slice A n c, .int .i64 0, .bool false] 118 (0, 0)) := by
    rw [hw0, hg]
    have := blk_new (w.alloc (.cells #[.int .i64 0, .int .i64 0, .int .i64 0, .slice none 0 0] 67)) (.cells #[.slice A n c, .int .i64 0, .bool false] 118)
    simpa using this
  have H0 := hid (show Rf w0 w.heap.size g A n c b 0 false from ⟨by omega, G0, (h.bound.mono (S' := fun k => k < w.heap.size) (fun k hk => hk.2)).chg C0.out (fun _ _ h => h), Nat.zero_le _⟩)
  have hgw : w.heap.size < g := by omega
  have E0 := hid (rdZero (X := left b 0 false))
  have C00 := hid (Chg.refl (fun k => k = g) w0)
  clear h G0
  go_enter Try.func43, Try.ntmps43
  go_wp2_with fail
  rw [← hw0, ← hg]
  clear hw0 hg
  refine (refnum_r H0.out hn).mono ?_
  rintro e w1 ⟨u1, rfl, hw1, hc1, at1, bad1, hr1, eq1⟩
  have H1 := hid hr1
  have C1 := hid (C00.out.trans hc1 (fun _ h _ => h))
  have E1 := hid (rdMore E0.out eq1)
  have W1 := hid hw1
  clear hw1 hc1 hr1 eq1 H0 E0 C00
  go_wp2_with fail
  refine (refnum_r H1.out hn).mono ?_
  rintro e w2 ⟨u2, rfl, hw2, hc2, at2, bad2, hr2, eq2⟩
  have H2 := hid hr2
  have C2 := hid (C1.out.trans hc2 (fun _ h _ => h))
  have E2 := hid (rdMore E1.out eq2)
  have W2 := hid hw2
  clear hw2 hc2 hr2 eq2 H1 E1 C1
  go_wp2_with fail
  refine (refnum_r H2.out hn).mono ?_
  rintro e w3 ⟨u3, rfl, hw3, hc3, at3, bad3, hr3, eq3⟩
  have H3 := hid hr3
  have C3 := hid (C2.out.trans hc3 (fun _ h _ => h))
  have E3 := hid (rdMore E2.out eq3)
  have W3 := hid hw3
  clear hw3 hc3 hr3 eq3 H2 E2 C2
  go_wp2_with fail
  obtain ⟨p, hp⟩ : ∃ p, p = w3.heap.size := ⟨_, rfl⟩
  obtain ⟨wa, hwa⟩ : ∃ wa, wa = w3.alloc (.cells #[.int .i64 u1, .int .i64 u2, .int .i64 u3, .slice none 0 0] 67) := ⟨_, rfl⟩
  have CP := hid (show Chg (fun _ => False) w3 wa by rw [hwa]; exact (Chg.refl _ w3).alloc _)
  have PA := hid (show wa.heap[p]? = some (.cells #[.int .i64 u1, .int .i64 u2, .int .i64 u3, .slice none 0 0] 67 (0, 0)) by rw [hwa, hp]; exact blk_new w3 _)
  have hpg : p ≠ g := by have := H3.out.lt; omega
  have hpw : w.heap.size < p := by rw [hp]; exact Nat.lt_of_lt_of_le (lt_of_blk B0.out) C3.out.size
  rw [← hwa, ← hp]
  have HA := hid (H3.out.chg CP.out (fun _ h => h.elim) (fun h => h))
  have CA := hid (show Chg (fun k => k = g) w0 wa from C3.out.trans CP.out (fun _ h _ => h.elim))
  have hsa := hid (show w.heap.size ≤ wa.heap.size from Nat.le_trans (Nat.le_trans C0.out.size C3.out.size) CP.out.size)
  clear hwa hp H3 C3 CP
  refine (reflog_r HA.out hn).mono ?_
  rintro e wl ⟨xs, A', c', rfl, hx, hcl, atl, badl, hrl, eql⟩
  have HX := hid hx
  have EL := hid (thenRd_eq mkRec E3.out eql)
  have PL := hid (hcl.blk PA.out hpg)
  have z : wl.cell? ⟨p, 3, none⟩ = some (.slice none 0 0) := by rw [cellAt PL.out]; rfl
  have fz : wl.frozen? ⟨p, 3, none⟩ = false := freeAt PL.out 3
  go_wp2_with fail
  obtain ⟨wm, hwm⟩ : ∃ wm, wm = wl.setCell ⟨p, 3, none⟩ (.slice A' xs.length c') := ⟨_, rfl⟩
  rw [← hwm]
  have CS := hid (show Chg (fun k => k = p) wl wm by rw [hwm]; exact chg_at p 3 _ wl)
  have PM := hid (show wm.heap[p]? = some (.cells #[.int .i64 u1, .int .i64 u2, .int .i64 u3, .slice A' xs.length c'] 67 (0, 0)) by rw [hwm]; exact blk_set PL.out 3 _)
  have HR := hid (hrl.chg CS.out (fun k hk => by subst hk; omega) (fun e => hpg e.symm))
  have pla := lt_of_blk PA.out
  have HXM := hid (hx.bound.chg CS.out (fun k hk e => by have q1 : wa.heap.size ≤ k := hk.1; omega))
  have CM := hid (show Chg (fun k => k = g ∨ k = p) w0 wm from ((CA.out.mono (S' := fun k => k = g ∨ k = p) (fun _ h _ => .inl h)).trans hcl (fun _ h _ => .inl h)).trans CS.out (fun _ h _ => .inr h))
  have BM := hid (CM.out.blk B0.out (fun e => by rcases e with e | e <;> omega))
  clear hx hcl hrl eql z fz hwm CS PL PA CA HA
  have HLE := hid HR.out.le
  obtain ⟨d0, d1, d2⟩ := HR.out.cells
  have hd1 : ∀ wx, Chg (fun k => k = w.heap.size) wm wx → wx.cell? ⟨g, 1, none⟩ = some (.int .i64 (atl : Int)) := fun wx hx => hx.cell d1 (by show ¬ g = _; omega)
  have x0 : ∀ wx, Chg (fun k => k = w.heap.size) wm wx → wx.cell? ⟨p, 0, none⟩ = some (.int .i64 u1) := fun wx hx => hx.cell (by rw [cellAt PM.out]; rfl) (by show ¬ p = _; omega)
  have x1 : ∀ wx, Chg (fun k => k = w.heap.size) wm wx → wx.cell? ⟨p, 1, none⟩ = some (.int .i64 u2) := fun wx hx => hx.cell (by rw [cellAt PM.out]; rfl) (by show ¬ p = _; omega)
  have x2 : ∀ wx, Chg (fun k => k = w.heap.size) wm wx → wx.cell? ⟨p, 2, none⟩ = some (.int .i64 u3) := fun wx hx => hx.cell (by rw [cellAt PM.out]; rfl) (by show ¬ p = _; omega)
  have x3 : ∀ wx, Chg (fun k => k = w.heap.size) wm wx → wx.cell? ⟨p, 3, none⟩ = some (.slice A' xs.length c') := fun wx hx => hx.cell (by rw [cellAt PM.out]; rfl) (by show ¬ p = _; omega)
  have y0 : wm.cell? ⟨w.heap.size, 0, none⟩ = some (.int .i64 0) := (cellAt BM.out 0).trans rfl
  have f0 : wm.frozen? ⟨w.heap.size, 0, none⟩ = false := freeAt BM.out 0
  have y1 : wm.cell? ⟨w.heap.size, 1, none⟩ = some (.int .i64 0) := (cellAt BM.out 1).trans rfl
  have f1 : wm.frozen? ⟨w.heap.size, 1, none⟩ = false := freeAt BM.out 1
  have y2 : wm.cell? ⟨w.heap.size, 2, none⟩ = some (.int .i64 0) := (cellAt BM.out 2).trans rfl
  have f2 : wm.frozen? ⟨w.heap.size, 2, none⟩ = false := freeAt BM.out 2
  have y3 : wm.cell? ⟨w.heap.size, 3, none⟩ = some (.slice none 0 0) := (cellAt BM.out 3).trans rfl
  have f3 : wm.frozen? ⟨w.heap.size, 3, none⟩ = false := freeAt BM.out 3
  have CE := hid (show Chg (fun _ => False) w wm from (C0.out.trans CM.out (fun k hk hl => by have := C0.out.size; rcases hk with hk | hk <;> omega)))
  have WF := hid (show ∀ u ∈ (mkRec [u1, u2, u3] xs).nums, (Lit.int .i64 u).wf = true from by
    intro u hu
    simp [mkRec, Rec.nums] at hu
    rcases hu with rfl | rfl | rfl
    · exact W1.out
    · exact W2.out
    · exact W3.out)
  have HSM := hid (show w.heap.size < wm.heap.size from lt_of_blk BM.out)
  cases badl with
  | true =>
    have hd2 : ∀ wx, Chg (fun k => k = w.heap.size) wm wx → wx.cell? ⟨g, 2, none⟩ = some (.bool true) := fun wx hx => hx.cell d2 (by show ¬ g = _; omega)
    clear d0 d1 d2
    go_wp2_with fail
    refine wpB_start (fun wx : World => Chg (fun k => k = w.heap.size) wm wx) (by kernel_rfl) ?_
    have hHeld : (fun wx : World => Chg (fun k => k = w.heap.size) wm wx) _ := (by first | assumption | exact Chg.drew (Chg.refl _ _) | (show _ ∧ _; refine ⟨?_, ?_⟩ <;> assumption) | (first | (with_reducible exact hHeld.trans HZ.out (fun _ h _ => h.elim)) | (with_reducible exact ((((hHeld.set (p := ⟨w.heap.size, 0, none⟩) (fun _ => rfl) (.int .i64 u1)).set (p := ⟨w.heap.size, 1, none⟩) (fun _ => rfl) (.int .i64 u2)).set (p := ⟨w.heap.size, 2, none⟩) (fun _ => rfl) (.int .i64 u3)).set (p := ⟨w.heap.size, 3, none⟩) (fun _ => rfl) (.slice A' xs.length c'))) | (with_reducible exact ((((((Chg.refl (fun k => k = w.heap.size) wm).set (p := ⟨w.heap.size, 0, none⟩) (fun _ => rfl) (.int .i64 u1)).set (p := ⟨w.heap.size, 1, none⟩) (fun _ => rfl) (.int .i64 u2)).set (p := ⟨w.heap.size, 2, none⟩) (fun _ => rfl) (.int .i64 u3)).set (p := ⟨w.heap.size, 3, none⟩) (fun _ => rfl) (.slice A' xs.length c'))).drew)))
    -- 0: t19 := load 67 t5 : 67
    refine wpB_take (i := 0) (v := ?_) (get_of_drop rfl) (by kernel_rfl) (by kernel_rfl) (by kernel_rfl) (by kernel_rfl) (fun _ _ _ h => h) (Or.inl ⟨by rfl, ?_⟩) hHeld ?_
    rotate_left
    · (intro w hSw; (try dsimp only at hSw); go_simp <;> with_reducible rfl)
    try simp only [Act.put, List.setIfInBounds_toArray, List.set_cons_zero, List.set_cons_succ]
    -- 1: t20 := move t4 : 116
    refine wpB_take (i := 1) (v := ?_) (get_of_drop rfl) (by kernel_rfl) (by kernel_rfl) (by kernel_rfl) (by kernel_rfl) (fun _ _ _ h => h) (Or.inl ⟨by rfl, ?_⟩) hHeld ?_
    rotate_left
    · (intro w hSw; (try dsimp only at hSw); go_simp <;> with_reducible rfl)
    try simp only [Act.put, List.setIfInBounds_toArray, List.set_cons_zero, List.set_cons_succ]
    -- 2: t21 := nilCheck t20 : 0
    refine wpB_take (i := 2) (v := ?_) (get_of_drop rfl) (by kernel_rfl) (by kernel_rfl) (by kernel_rfl) (by kernel_rfl) (fun _ _ _ h => h) (Or.inl ⟨by rfl, ?_⟩) hHeld ?_
    rotate_left
    · (intro w hSw; (try dsimp only at hSw); go_simp <;> with_reducible rfl)
    try simp only [Act.put, List.setIfInBounds_toArray, List.set_cons_zero, List.set_cons_succ]
    -- 3: t22 := fieldAddr 118 t21 2 : 0
    refine wpB_take (i := 3) (v := ?_) (get_of_drop rfl) (by kernel_rfl) (by kernel_rfl) (by kernel_rfl) (by kernel_rfl) (fun _ _ _ h => h) (Or.inl ⟨by rfl, ?_⟩) hHeld ?_
    rotate_left
    · (intro w hSw; (try dsimp only at hSw); go_simp <;> with_reducible rfl)
    try simp only [Act.put, List.setIfInBounds_toArray, List.set_cons_zero, List.set_cons_succ]
    -- 4: t23 := load 4 t22 : 4
    refine wpB_take (i := 4) (v := ?_) (get_of_drop rfl) (by kernel_rfl) (by kernel_rfl) (by kernel_rfl) (by kernel_rfl) (fun _ _ _ h => h) (Or.inl ⟨by rfl, ?_⟩) hHeld ?_
    rotate_left
    · (intro w hSw; (try dsimp only at hSw); go_simp <;> with_reducible rfl)
    try simp only [Act.put, List.setIfInBounds_toArray, List.set_cons_zero, List.set_cons_succ]
    -- 5: t24 := unOp UnOp.not 4 t23 : 4
    refine wpB_take (i := 5) (v := ?_) (get_of_drop rfl) (by kernel_rfl) (by kernel_rfl) (by kernel_rfl) (by kernel_rfl) (fun _ _ _ h => h) (Or.inl ⟨by rfl, ?_⟩) hHeld ?_
    rotate_left
    · (intro w hSw; (try dsimp only at hSw); go_simp <;> with_reducible rfl)
    try simp only [Act.put, List.setIfInBounds_toArray, List.set_cons_zero, List.set_cons_succ]
    -- 6: t25 := move t24 : 4
    refine wpB_take (i := 6) (v := ?_) (get_of_drop rfl) (by kernel_rfl) (by kernel_rfl) (by kernel_rfl) (by kernel_rfl) (fun _ _ _ h => h) (Or.inl ⟨by rfl, ?_⟩) hHeld ?_
    rotate_left
    · (intro w hSw; (try dsimp only at hSw); go_simp <;> with_reducible rfl)
    try simp only [Act.put, List.setIfInBounds_toArray, List.set_cons_zero, List.set_cons_succ]
    -- 7: t26 := move t4 : 116   [if ⟨6, true⟩]
    refine wpB_take (i := 7) (v := undef) (get_of_drop rfl) (by kernel_rfl) (by kernel_rfl) (by kernel_rfl) (by kernel_rfl) (fun _ _ _ h => h) (Or.inr ⟨by rfl, rfl⟩) hHeld ?_
    try simp only [Act.put, List.setIfInBounds_toArray, List.set_cons_zero, List.set_cons_succ]
    -- 8: t27 := nilCheck t26 : 0   [if ⟨6, true⟩]
    refine wpB_take (i := 8) (v := undef) (get_of_drop rfl) (by kernel_rfl) (by kernel_rfl) (by kernel_rfl) (by kernel_rfl) (fun _ _ _ h => h) (Or.inr ⟨by rfl, rfl⟩) hHeld ?_
    try simp only [Act.put, List.setIfInBounds_toArray, List.set_cons_zero, List.set_cons_succ]
    -- 9: t28 := fieldAddr 118 t27 1 : 0   [if ⟨6, true⟩]
    refine wpB_take (i := 9) (v := undef) (get_of_drop rfl) (by kernel_rfl) (by kernel_rfl) (by kernel_rfl) (by kernel_rfl) (fun _ _ _ h => h) (Or.inr ⟨by rfl, rfl⟩) hHeld ?_
    try simp only [Act.put, List.setIfInBounds_toArray, List.set_cons_zero, List.set_cons_succ]
    -- 10: t29 := load 3 t28 : 3   [if ⟨6, true⟩]
    refine wpB_take (i := 10) (v := undef) (get_of_drop rfl) (by kernel_rfl) (by kernel_rfl) (by kernel_rfl) (by kernel_rfl) (fun _ _ _ h => h) (Or.inr ⟨by rfl, rfl⟩) hHeld ?_
    try simp only [Act.put, List.setIfInBounds_toArray, List.set_cons_zero, List.set_cons_succ]
    -- 11: t30 := move t0 : 36   [if ⟨6, true⟩]
    refine wpB_take (i := 11) (v := undef) (get_of_drop rfl) (by kernel_rfl) (by kernel_rfl) (by kernel_rfl) (by kernel_rfl) (fun _ _ _ h => h) (Or.inr ⟨by rfl, rfl⟩) hHeld ?_
    try simp only [Act.put, List.setIfInBounds_toArray, List.set_cons_zero, List.set_cons_succ]
    -- 12: t31 := len(t30) types [36] : 3   [if ⟨6, true⟩]
    refine wpB_take (i := 12) (v := undef) (get_of_drop rfl) (by kernel_rfl) (by kernel_rfl) (by kernel_rfl) (by kernel_rfl) (fun _ _ _ h => h) (Or.inr ⟨by rfl, rfl⟩) hHeld ?_
    try simp only [Act.put, List.setIfInBounds_toArray, List.set_cons_zero, List.set_cons_succ]
    -- 13: t32 := binOp BinOp.eql 3 t29 t31 3 : 4   [if ⟨6, true⟩]
    refine wpB_take (i := 13) (v := undef) (get_of_drop rfl) (by kernel_rfl) (by kernel_rfl) (by kernel_rfl) (by kernel_rfl) (fun _ _ _ h => h) (Or.inr ⟨by rfl, rfl⟩) hHeld ?_
    try simp only [Act.put, List.setIfInBounds_toArray, List.set_cons_zero, List.set_cons_succ]
    -- 14: t33 := pick t25 t32 #false : 4
    refine wpB_take (i := 14) (v := ?_) (get_of_drop rfl) (by kernel_rfl) (by kernel_rfl) (by kernel_rfl) (by kernel_rfl) (fun _ _ _ h => h) (Or.inl ⟨by rfl, ?_⟩) hHeld ?_
    rotate_left
    · (intro w hSw; (try dsimp only at hSw); go_simp <;> with_reducible rfl)
    try simp only [Act.put, List.setIfInBounds_toArray, List.set_cons_zero, List.set_cons_succ]
    -- 15: t34 := move t33 : 4
    refine wpB_take (i := 15) (v := ?_) (get_of_drop rfl) (by kernel_rfl) (by kernel_rfl) (by kernel_rfl) (by kernel_rfl) (fun _ _ _ h => h) (Or.inl ⟨by rfl, ?_⟩) hHeld ?_
    rotate_left
    · (intro w hSw; (try dsimp only at hSw); go_simp <;> with_reducible rfl)
    try simp only [Act.put, List.setIfInBounds_toArray, List.set_cons_zero, List.set_cons_succ]
    -- 16: t35 := move t0 : 36   [if ⟨15, true⟩]
    refine wpB_take (i := 16) (v := undef) (get_of_drop rfl) (by kernel_rfl) (by kernel_rfl) (by kernel_rfl) (by kernel_rfl) (fun _ _ _ h => h) (Or.inr ⟨by rfl, rfl⟩) hHeld ?_
    try simp only [Act.put, List.setIfInBounds_toArray, List.set_cons_zero, List.set_cons_succ]
    -- 17: t36 := len(t35) types [36] : 3   [if ⟨15, true⟩]
    refine wpB_take (i := 17) (v := undef) (get_of_drop rfl) (by kernel_rfl) (by kernel_rfl) (by kernel_rfl) (by kernel_rfl) (fun _ _ _ h => h) (Or.inr ⟨by rfl, rfl⟩) hHeld ?_
    try simp only [Act.put, List.setIfInBounds_toArray, List.set_cons_zero, List.set_cons_succ]
    -- 18: t37 := binOp BinOp.leq 3 t36 #i64:65536 3 : 4   [if ⟨15, true⟩]
    refine wpB_take (i := 18) (v := undef) (get_of_drop rfl) (by kernel_rfl) (by kernel_rfl) (by kernel_rfl) (by kernel_rfl) (fun _ _ _ h => h) (Or.inr ⟨by rfl, rfl⟩) hHeld ?_
    try simp only [Act.put, List.setIfInBounds_toArray, List.set_cons_zero, List.set_cons_succ]
    -- 19: t38 := pick t34 t37 #false : 4
    refine wpB_take (i := 19) (v := ?_) (get_of_drop rfl) (by kernel_rfl) (by kernel_rfl) (by kernel_rfl) (by kernel_rfl) (fun _ _ _ h => h) (Or.inl ⟨by rfl, ?_⟩) hHeld ?_
    rotate_left
    · (intro w hSw; (try dsimp only at hSw); go_simp <;> with_reducible rfl)
    try simp only [Act.put, List.setIfInBounds_toArray, List.set_cons_zero, List.set_cons_succ]
    -- 20: t39 := move t38 : 4
    refine wpB_take (i := 20) (v := ?_) (get_of_drop rfl) (by kernel_rfl) (by kernel_rfl) (by kernel_rfl) (by kernel_rfl) (fun _ _ _ h => h) (Or.inl ⟨by rfl, ?_⟩) hHeld ?_
    rotate_left
    · (intro w hSw; (try dsimp only at hSw); go_simp <;> with_reducible rfl)
    try simp only [Act.put, List.setIfInBounds_toArray, List.set_cons_zero, List.set_cons_succ]
    -- 21: t40 := load 67 t5 : 67   [if ⟨20, true⟩]
    refine wpB_take (i := 21) (v := undef) (get_of_drop rfl) (by kernel_rfl) (by kernel_rfl) (by kernel_rfl) (by kernel_rfl) (fun _ _ _ h => h) (Or.inr ⟨by rfl, rfl⟩) hHeld ?_
    try simp only [Act.put, List.setIfInBounds_toArray, List.set_cons_zero, List.set_cons_succ]
    -- 22: t41 := CALL fn28(t40) : 4   [if ⟨20, true⟩]
    refine wpB_take (i := 22) (v := undef) (get_of_drop rfl) (by kernel_rfl) (by kernel_rfl) (by kernel_rfl) (by kernel_rfl) (fun _ _ _ h => h) (Or.inr ⟨by rfl, rfl⟩) hHeld ?_
    try simp only [Act.put, List.setIfInBounds_toArray, List.set_cons_zero, List.set_cons_succ]
    -- 23: t42 := pick t39 t41 #false : 4
    refine wpB_take (i := 23) (v := ?_) (get_of_drop rfl) (by kernel_rfl) (by kernel_rfl) (by kernel_rfl) (by kernel_rfl) (fun _ _ _ h => h) (Or.inl ⟨by rfl, ?_⟩) hHeld ?_
    rotate_left
    · (intro w hSw; (try dsimp only at hSw); go_simp <;> with_reducible rfl)
    try simp only [Act.put, List.setIfInBounds_toArray, List.set_cons_zero, List.set_cons_succ]
    -- 24: t- := store 67 t2 t19 : 0
    refine wpB_act (i := 24) (by kernel_rfl) (get_of_drop rfl) (fun K hK => ?_)
    go_simp
    refine hK.out _ _ ?_ (fun hHeld2 => ?_)
    · (first | (with_reducible exact hHeld.trans HZ.out (fun _ h _ => h.elim)) | (with_reducible exact ((((hHeld.set (p := ⟨w.heap.size, 0, none⟩) (fun _ => rfl) (.int .i64 u1)).set (p := ⟨w.heap.size, 1, none⟩) (fun _ => rfl) (.int .i64 u2)).set (p := ⟨w.heap.size, 2, none⟩) (fun _ => rfl) (.int .i64 u3)).set (p := ⟨w.heap.size, 3, none⟩) (fun _ => rfl) (.slice A' xs.length c'))) | (with_reducible exact ((((((Chg.refl (fun k => k = w.heap.size) wm).set (p := ⟨w.heap.size, 0, none⟩) (fun _ => rfl) (.int .i64 u1)).set (p := ⟨w.heap.size, 1, none⟩) (fun _ => rfl) (.int .i64 u2)).set (p := ⟨w.heap.size, 2, none⟩) (fun _ => rfl) (.int .i64 u3)).set (p := ⟨w.heap.size, 3, none⟩) (fun _ => rfl) (.slice A' xs.length c'))).drew))
    clear hHeld hK K
    have hHeld := hHeld2
    clear hHeld2
    try simp only [Act.put, List.setIfInBounds_toArray, List.set_cons_zero, List.set_cons_succ]
    -- 25: t3 := assign t42 : 4
    refine wpB_take (i := 25) (v := ?_) (get_of_drop rfl) (by kernel_rfl) (by kernel_rfl) (by kernel_rfl) (by kernel_rfl) (fun _ _ _ h => h) (Or.inl ⟨by rfl, ?_⟩) hHeld ?_
    rotate_left
    · (intro w hSw; (try dsimp only at hSw); go_simp <;> with_reducible rfl)
    try simp only [Act.put, List.setIfInBounds_toArray, List.set_cons_zero, List.set_cons_succ]
    refine wpB_done (by kernel_rfl) ?_ _
    clear hHeld hd1 x0 y0 f0 x1 y1 f1 x2 y2 f2 x3 y3 f3
    clear hd2
    go_wp2_with fail
    obtain ⟨PB, PC⟩ := put_blk (recCells (mkRec [u1, u2, u3] xs) A' xs.length c') wm _ BM.out rfl
    generalize hW : ((((wm.setCell ⟨w.heap.size, 0, none⟩ (.int .i64 u1)).setCell ⟨w.heap.size, 1, none⟩ (.int .i64 u2)).setCell ⟨w.heap.size, 2, none⟩ (.int .i64 u3)).setCell ⟨w.heap.size, 3, none⟩ (.slice A' xs.length c')) = W0
    have PB0 : W0.heap[w.heap.size]? = some (.cells (recCells (mkRec [u1, u2, u3] xs) A' xs.length c').toArray 67 (0, 0)) := by rw [← hW]; exact PB
    have PC0 : Chg (fun k => k = w.heap.size) wm W0 := by rw [← hW]; exact PC
    obtain ⟨W, hW2⟩ : ∃ W, W = W0.drew := ⟨_, rfl⟩
    rw [← hW2]
    have PB' : W.heap[w.heap.size]? = some (.cells (recCells (mkRec [u1, u2, u3] xs) A' xs.length c').toArray 67 (0, 0)) := by rw [hW2]; exact PB0
    have PC' : Chg (fun k => k = w.heap.size) wm W := by rw [hW2]; exact PC0.drew
    clear PB0 PC0 hW2
    clear PB PC hW
    have z0 : W.cell? ⟨w.heap.size, 0, none⟩ = some (.int .i64 u1) := by rw [cellAt PB']; rfl
    have z1 : W.cell? ⟨w.heap.size, 1, none⟩ = some (.int .i64 u2) := by rw [cellAt PB']; rfl
    have z2 : W.cell? ⟨w.heap.size, 2, none⟩ = some (.int .i64 u3) := by rw [cellAt PB']; rfl
    have z3 : W.cell? ⟨w.heap.size, 3, none⟩ = some (.slice A' xs.length c') := by rw [cellAt PB']; rfl
    refine bodyPost_ret (v := .tuple #[.agg #[.int .i64 u1, .int .i64 u2, .int .i64 u3, .slice A' xs.length c'], .bool false]) (by simp [results, Try.results43, go_sem, z0, z1, z2, z3]) rfl ?_
    have sm := HSM.out
    have hsa' := hsa.out
    exact ⟨mkRec [u1, u2, u3] xs, A', xs.length, c', false, rfl, parseRecR_bad EL.out, WF.out, (((HXM.out).chg PC' (fun k hk e => by have q1 : wa.heap.size ≤ k := hk.1; have q2 : w.heap.size < p := hpw; omega)).mono (fun k hk => Nat.le_trans hsa' hk.1)), (CE.out).trans PC' (fun k hk hl => by subst hk; exact absurd hl (Nat.lt_irrefl _))⟩
  | false =>
    have hd2 : ∀ wx, Chg (fun k => k = w.heap.size) wm wx → wx.cell? ⟨g, 2, none⟩ = some (.bool false) := fun wx hx => hx.cell d2 (by show ¬ g = _; omega)
    clear d0 d1 d2
    have PG := hid (parseRecR_good EL.out)
    by_cases hat : atl = n
    case neg =>
      have hb : ((atl : Int) == (n : Int)) = false := by simpa using (fun h => hat (by omega) : ¬ (atl : Int) = (n : Int))
      have PN := hid (show parseRecR b = none by rw [PG.out, if_neg]; rintro ⟨h1, _⟩; have h2 := congrArg List.length h1; have h3 := HLE.out; have h4 := HN.out; rw [List.length_drop] at h2; simp at h2; omega)
      clear hat
      go_wp2_with fail
      refine wpB_start (fun wx : World => Chg (fun k => k = w.heap.size) wm wx) (by kernel_rfl) ?_
      have hHeld : (fun wx : World => Chg (fun k => k = w.heap.size) wm wx) _ := (by first | assumption | exact Chg.drew (Chg.refl _ _) | (show _ ∧ _; refine ⟨?_, ?_⟩ <;> assumption) | (first | (with_reducible exact hHeld.trans HZ.out (fun _ h _ => h.elim)) | (with_reducible exact ((((hHeld.set (p := ⟨w.heap.size, 0, none⟩) (fun _ => rfl) (.int .i64 u1)).set (p := ⟨w.heap.size, 1, none⟩) (fun _ => rfl) (.int .i64 u2)).set (p := ⟨w.heap.size, 2, none⟩) (fun _ => rfl) (.int .i64 u3)).set (p := ⟨w.heap.size, 3, none⟩) (fun _ => rfl) (.slice A' xs.length c'))) | (with_reducible exact ((((((Chg.refl (fun k => k = w.heap.size) wm).set (p := ⟨w.heap.size, 0, none⟩) (fun _ => rfl) (.int .i64 u1)).set (p := ⟨w.heap.size, 1, none⟩) (fun _ => rfl) (.int .i64 u2)).set (p := ⟨w.heap.size, 2, none⟩) (fun _ => rfl) (.int .i64 u3)).set (p := ⟨w.heap.size, 3, none⟩) (fun _ => rfl) (.slice A' xs.length c'))).drew)))
      -- 0: t19 := load 67 t5 : 67
      refine wpB_take (i := 0) (v := ?_) (get_of_drop rfl) (by kernel_rfl) (by kernel_rfl) (by kernel_rfl) (by kernel_rfl) (fun _ _ _ h => h) (Or.inl ⟨by rfl, ?_⟩) hHeld ?_
      rotate_left
      · (intro w hSw; (try dsimp only at hSw); go_simp <;> with_reducible rfl)
      try simp only [Act.put, List.setIfInBounds_toArray, List.set_cons_zero, List.set_cons_succ]
      -- 1: t20 := move t4 : 116
      refine wpB_take (i := 1) (v := ?_) (get_of_drop rfl) (by kernel_rfl) (by kernel_rfl) (by kernel_rfl) (by kernel_rfl) (fun _ _ _ h => h) (Or.inl ⟨by rfl, ?_⟩) hHeld ?_
      rotate_left
      · (intro w hSw; (try dsimp only at hSw); go_simp <;> with_reducible rfl)
      try simp only [Act.put, List.setIfInBounds_toArray, List.set_cons_zero, List.set_cons_succ]
      -- 2: t21 := nilCheck t20 : 0
      refine wpB_take (i := 2) (v := ?_) (get_of_drop rfl) (by kernel_rfl) (by kernel_rfl) (by kernel_rfl) (by kernel_rfl) (fun _ _ _ h => h) (Or.inl ⟨by rfl, ?_⟩) hHeld ?_
      rotate_left
      · (intro w hSw; (try dsimp only at hSw); go_simp <;> with_reducible rfl)
      try simp only [Act.put, List.setIfInBounds_toArray, List.set_cons_zero, List.set_cons_succ]
      -- 3: t22 := fieldAddr 118 t21 2 : 0
      refine wpB_take (i := 3) (v := ?_) (get_of_drop rfl) (by kernel_rfl) (by kernel_rfl) (by kernel_rfl) (by kernel_rfl) (fun _ _ _ h => h) (Or.inl ⟨by rfl, ?_⟩) hHeld ?_
      rotate_left
      · (intro w hSw; (try dsimp only at hSw); go_simp <;> with_reducible rfl)
      try simp only [Act.put, List.setIfInBounds_toArray, List.set_cons_zero, List.set_cons_succ]
      -- 4: t23 := load 4 t22 : 4
      refine wpB_take (i := 4) (v := ?_) (get_of_drop rfl) (by kernel_rfl) (by kernel_rfl) (by kernel_rfl) (by kernel_rfl) (fun _ _ _ h => h) (Or.inl ⟨by rfl, ?_⟩) hHeld ?_
      rotate_left
      · (intro w hSw; (try dsimp only at hSw); go_simp <;> with_reducible rfl)
      try simp only [Act.put, List.setIfInBounds_toArray, List.set_cons_zero, List.set_cons_succ]
      -- 5: t24 := unOp UnOp.not 4 t23 : 4
      refine wpB_take (i := 5) (v := ?_) (get_of_drop rfl) (by kernel_rfl) (by kernel_rfl) (by kernel_rfl) (by kernel_rfl) (fun _ _ _ h => h) (Or.inl ⟨by rfl, ?_⟩) hHeld ?_
      rotate_left
      · (intro w hSw; (try dsimp only at hSw); go_simp <;> with_reducible rfl)
      try simp only [Act.put, List.setIfInBounds_toArray, List.set_cons_zero, List.set_cons_succ]
      -- 6: t25 := move t24 : 4
      refine wpB_take (i := 6) (v := ?_) (get_of_drop rfl) (by kernel_rfl) (by kernel_rfl) (by kernel_rfl) (by kernel_rfl) (fun _ _ _ h => h) (Or.inl ⟨by rfl, ?_⟩) hHeld ?_
      rotate_left
      · (intro w hSw; (try dsimp only at hSw); go_simp <;> with_reducible rfl)
      try simp only [Act.put, List.setIfInBounds_toArray, List.set_cons_zero, List.set_cons_succ]
      -- 7: t26 := move t4 : 116   [if ⟨6, true⟩]
      refine wpB_take (i := 7) (v := ?_) (get_of_drop rfl) (by kernel_rfl) (by kernel_rfl) (by kernel_rfl) (by kernel_rfl) (fun _ _ _ h => h) (Or.inl ⟨by rfl, ?_⟩) hHeld ?_
      rotate_left
      · (intro w hSw; (try dsimp only at hSw); go_simp <;> with_reducible rfl)
      try simp only [Act.put, List.setIfInBounds_toArray, List.set_cons_zero, List.set_cons_succ]
      -- 8: t27 := nilCheck t26 : 0   [if ⟨6, true⟩]
      refine wpB_take (i := 8) (v := ?_) (get_of_drop rfl) (by kernel_rfl) (by kernel_rfl) (by kernel_rfl) (by kernel_rfl) (fun _ _ _ h => h) (Or.inl ⟨by rfl, ?_⟩) hHeld ?_
      rotate_left
      · (intro w hSw; (try dsimp only at hSw); go_simp <;> with_reducible rfl)
      try simp only [Act.put, List.setIfInBounds_toArray, List.set_cons_zero, List.set_cons_succ]
      -- 9: t28 := fieldAddr 118 t27 1 : 0   [if ⟨6, true⟩]
      refine wpB_take (i := 9) (v := ?_) (get_of_drop rfl) (by kernel_rfl) (by kernel_rfl) (by kernel_rfl) (by kernel_rfl) (fun _ _ _ h => h) (Or.inl ⟨by rfl, ?_⟩) hHeld ?_
      rotate_left
      · (intro w hSw; (try dsimp only at hSw); go_simp <;> with_reducible rfl)
      try simp only [Act.put, List.setIfInBounds_toArray, List.set_cons_zero, List.set_cons_succ]
      -- 10: t29 := load 3 t28 : 3   [if ⟨6, true⟩]
      refine wpB_take (i := 10) (v := ?_) (get_of_drop rfl) (by kernel_rfl) (by kernel_rfl) (by kernel_rfl) (by kernel_rfl) (fun _ _ _ h => h) (Or.inl ⟨by rfl, ?_⟩) hHeld ?_
      rotate_left
      · (intro w hSw; (try dsimp only at hSw); go_simp <;> with_reducible rfl)
      try simp only [Act.put, List.setIfInBounds_toArray, List.set_cons_zero, List.set_cons_succ]
      -- 11: t30 := move t0 : 36   [if ⟨6, true⟩]
      refine wpB_take (i := 11) (v := ?_) (get_of_drop rfl) (by kernel_rfl) (by kernel_rfl) (by kernel_rfl) (by kernel_rfl) (fun _ _ _ h => h) (Or.inl ⟨by rfl, ?_⟩) hHeld ?_
      rotate_left
      · (intro w hSw; (try dsimp only at hSw); go_simp <;> with_reducible rfl)
      try simp only [Act.put, List.setIfInBounds_toArray, List.set_cons_zero, List.set_cons_succ]
      -- 12: t31 := len(t30) types [36] : 3   [if ⟨6, true⟩]
      refine wpB_take (i := 12) (v := ?_) (get_of_drop rfl) (by kernel_rfl) (by kernel_rfl) (by kernel_rfl) (by kernel_rfl) (fun _ _ _ h => h) (Or.inl ⟨by rfl, ?_⟩) hHeld ?_
      rotate_left
      · (intro w hSw; (try dsimp only at hSw); go_simp <;> with_reducible rfl)
      try simp only [Act.put, List.setIfInBounds_toArray, List.set_cons_zero, List.set_cons_succ]
      -- 13: t32 := binOp BinOp.eql 3 t29 t31 3 : 4   [if ⟨6, true⟩]
      refine wpB_take (i := 13) (v := ?_) (get_of_drop rfl) (by kernel_rfl) (by kernel_rfl) (by kernel_rfl) (by kernel_rfl) (fun _ _ _ h => h) (Or.inl ⟨by rfl, ?_⟩) hHeld ?_
      rotate_left
      · (intro w hSw; (try dsimp only at hSw); go_simp <;> with_reducible rfl)
      try simp only [Act.put, List.setIfInBounds_toArray, List.set_cons_zero, List.set_cons_succ]
      -- 14: t33 := pick t25 t32 #false : 4
      refine wpB_take (i := 14) (v := ?_) (get_of_drop rfl) (by kernel_rfl) (by kernel_rfl) (by kernel_rfl) (by kernel_rfl) (fun _ _ _ h => h) (Or.inl ⟨by rfl, ?_⟩) hHeld ?_
      rotate_left
      · (intro w hSw; (try dsimp only at hSw); go_simp <;> with_reducible rfl)
      try simp only [Act.put, List.setIfInBounds_toArray, List.set_cons_zero, List.set_cons_succ]
      -- 15: t34 := move t33 : 4
      refine wpB_take (i := 15) (v := ?_) (get_of_drop rfl) (by kernel_rfl) (by kernel_rfl) (by kernel_rfl) (by kernel_rfl) (fun _ _ _ h => h) (Or.inl ⟨by rfl, ?_⟩) hHeld ?_
      rotate_left
      · (intro w hSw; (try dsimp only at hSw); go_simp <;> with_reducible rfl)
      try simp only [Act.put, List.setIfInBounds_toArray, List.set_cons_zero, List.set_cons_succ]
      -- 16: t35 := move t0 : 36   [if ⟨15, true⟩]
      refine wpB_take (i := 16) (v := undef) (get_of_drop rfl) (by kernel_rfl) (by kernel_rfl) (by kernel_rfl) (by kernel_rfl) (fun _ _ _ h => h) (Or.inr ⟨by rfl, rfl⟩) hHeld ?_
      try simp only [Act.put, List.setIfInBounds_toArray, List.set_cons_zero, List.set_cons_succ]
      -- 17: t36 := len(t35) types [36] : 3   [if ⟨15, true⟩]
      refine wpB_take (i := 17) (v := undef) (get_of_drop rfl) (by kernel_rfl) (by kernel_rfl) (by kernel_rfl) (by kernel_rfl) (fun _ _ _ h => h) (Or.inr ⟨by rfl, rfl⟩) hHeld ?_
      try simp only [Act.put, List.setIfInBounds_toArray, List.set_cons_zero, List.set_cons_succ]
      -- 18: t37 := binOp BinOp.leq 3 t36 #i64:65536 3 : 4   [if ⟨15, true⟩]
      refine wpB_take (i := 18) (v := undef) (get_of_drop rfl) (by kernel_rfl) (by kernel_rfl) (by kernel_rfl) (by kernel_rfl) (fun _ _ _ h => h) (Or.inr ⟨by rfl, rfl⟩) hHeld ?_
      try simp only [Act.put, List.setIfInBounds_toArray, List.set_cons_zero, List.set_cons_succ]
      -- 19: t38 := pick t34 t37 #false : 4
      refine wpB_take (i := 19) (v := ?_) (get_of_drop rfl) (by kernel_rfl) (by kernel_rfl) (by kernel_rfl) (by kernel_rfl) (fun _ _ _ h => h) (Or.inl ⟨by rfl, ?_⟩) hHeld ?_
      rotate_left
      · (intro w hSw; (try dsimp only at hSw); go_simp <;> with_reducible rfl)
      try simp only [Act.put, List.setIfInBounds_toArray, List.set_cons_zero, List.set_cons_succ]
      -- 20: t39 := move t38 : 4
      refine wpB_take (i := 20) (v := ?_) (get_of_drop rfl) (by kernel_rfl) (by kernel_rfl) (by kernel_rfl) (by kernel_rfl) (fun _ _ _ h => h) (Or.inl ⟨by rfl, ?_⟩) hHeld ?_
      rotate_left
      · (intro w hSw; (try dsimp only at hSw); go_simp <;> with_reducible rfl)
      try simp only [Act.put, List.setIfInBounds_toArray, List.set_cons_zero, List.set_cons_succ]
      -- 21: t40 := load 67 t5 : 67   [if ⟨20, true⟩]
      refine wpB_take (i := 21) (v := undef) (get_of_drop rfl) (by kernel_rfl) (by kernel_rfl) (by kernel_rfl) (by kernel_rfl) (fun _ _ _ h => h) (Or.inr ⟨by rfl, rfl⟩) hHeld ?_
      try simp only [Act.put, List.setIfInBounds_toArray, List.set_cons_zero, List.set_cons_succ]
      -- 22: t41 := CALL fn28(t40) : 4   [if ⟨20, true⟩]
      refine wpB_take (i := 22) (v := undef) (get_of_drop rfl) (by kernel_rfl) (by kernel_rfl) (by kernel_rfl) (by kernel_rfl) (fun _ _ _ h => h) (Or.inr ⟨by rfl, rfl⟩) hHeld ?_
      try simp only [Act.put, List.setIfInBounds_toArray, List.set_cons_zero, List.set_cons_succ]
      -- 23: t42 := pick t39 t41 #false : 4
      refine wpB_take (i := 23) (v := ?_) (get_of_drop rfl) (by kernel_rfl) (by kernel_rfl) (by kernel_rfl) (by kernel_rfl) (fun _ _ _ h => h) (Or.inl ⟨by rfl, ?_⟩) hHeld ?_
      rotate_left
      · (intro w hSw; (try dsimp only at hSw); go_simp <;> with_reducible rfl)
      try simp only [Act.put, List.setIfInBounds_toArray, List.set_cons_zero, List.set_cons_succ]
      -- 24: t- := store 67 t2 t19 : 0
      refine wpB_act (i := 24) (by kernel_rfl) (get_of_drop rfl) (fun K hK => ?_)
      go_simp
      refine hK.out _ _ ?_ (fun hHeld2 => ?_)
      · (first | (with_reducible exact hHeld.trans HZ.out (fun _ h _ => h.elim)) | (with_reducible exact ((((hHeld.set (p := ⟨w.heap.size, 0, none⟩) (fun _ => rfl) (.int .i64 u1)).set (p := ⟨w.heap.size, 1, none⟩) (fun _ => rfl) (.int .i64 u2)).set (p := ⟨w.heap.size, 2, none⟩) (fun _ => rfl) (.int .i64 u3)).set (p := ⟨w.heap.size, 3, none⟩) (fun _ => rfl) (.slice A' xs.length c'))) | (with_reducible exact ((((((Chg.refl (fun k => k = w.heap.size) wm).set (p := ⟨w.heap.size, 0, none⟩) (fun _ => rfl) (.int .i64 u1)).set (p := ⟨w.heap.size, 1, none⟩) (fun _ => rfl) (.int .i64 u2)).set (p := ⟨w.heap.size, 2, none⟩) (fun _ => rfl) (.int .i64 u3)).set (p := ⟨w.heap.size, 3, none⟩) (fun _ => rfl) (.slice A' xs.length c'))).drew))
      clear hHeld hK K
      have hHeld := hHeld2
      clear hHeld2
      try simp only [Act.put, List.setIfInBounds_toArray, List.set_cons_zero, List.set_cons_succ]
      -- 25: t3 := assign t42 : 4
      refine wpB_take (i := 25) (v := ?_) (get_of_drop rfl) (by kernel_rfl) (by kernel_rfl) (by kernel_rfl) (by kernel_rfl) (fun _ _ _ h => h) (Or.inl ⟨by rfl, ?_⟩) hHeld ?_
      rotate_left
      · (intro w hSw; (try dsimp only at hSw); go_simp <;> with_reducible rfl)
      try simp only [Act.put, List.setIfInBounds_toArray, List.set_cons_zero, List.set_cons_succ]
      refine wpB_done (by kernel_rfl) ?_ _
      clear hHeld hd1 x0 y0 f0 x1 y1 f1 x2 y2 f2 x3 y3 f3
      clear hd2
      go_wp2_with fail
      obtain ⟨PB, PC⟩ := put_blk (recCells (mkRec [u1, u2, u3] xs) A' xs.length c') wm _ BM.out rfl
      generalize hW : ((((wm.setCell ⟨w.heap.size, 0, none⟩ (.int .i64 u1)).setCell ⟨w.heap.size, 1, none⟩ (.int .i64 u2)).setCell ⟨w.heap.size, 2, none⟩ (.int .i64 u3)).setCell ⟨w.heap.size, 3, none⟩ (.slice A' xs.length c')) = W0
      have PB0 : W0.heap[w.heap.size]? = some (.cells (recCells (mkRec [u1, u2, u3] xs) A' xs.length c').toArray 67 (0, 0)) := by rw [← hW]; exact PB
      have PC0 : Chg (fun k => k = w.heap.size) wm W0 := by rw [← hW]; exact PC
      obtain ⟨W, hW2⟩ : ∃ W, W = W0.drew := ⟨_, rfl⟩
      rw [← hW2]
      have PB' : W.heap[w.heap.size]? = some (.cells (recCells (mkRec [u1, u2, u3] xs) A' xs.length c').toArray 67 (0, 0)) := by rw [hW2]; exact PB0
      have PC' : Chg (fun k => k = w.heap.size) wm W := by rw [hW2]; exact PC0.drew
      clear PB0 PC0 hW2
      clear PB PC hW
      have z0 : W.cell? ⟨w.heap.size, 0, none⟩ = some (.int .i64 u1) := by rw [cellAt PB']; rfl
      have z1 : W.cell? ⟨w.heap.size, 1, none⟩ = some (.int .i64 u2) := by rw [cellAt PB']; rfl
      have z2 : W.cell? ⟨w.heap.size, 2, none⟩ = some (.int .i64 u3) := by rw [cellAt PB']; rfl
      have z3 : W.cell? ⟨w.heap.size, 3, none⟩ = some (.slice A' xs.length c') := by rw [cellAt PB']; rfl
      refine bodyPost_ret (v := .tuple #[.agg #[.int .i64 u1, .int .i64 u2, .int .i64 u3, .slice A' xs.length c'], .bool false]) (by simp [results, Try.results43, go_sem, z0, z1, z2, z3]) rfl ?_
      have sm := HSM.out
      have hsa' := hsa.out
      exact ⟨mkRec [u1, u2, u3] xs, A', xs.length, c', false, rfl, PN.out, WF.out, (((HXM.out).chg PC' (fun k hk e => by have q1 : wa.heap.size ≤ k := hk.1; have q2 : w.heap.size < p := hpw; omega)).mono (fun k hk => Nat.le_trans hsa' hk.1)), (CE.out).trans PC' (fun k hk hl => by subst hk; exact absurd hl (Nat.lt_irrefl _))⟩
    subst hat
    have hb : ((atl : Int) == (atl : Int)) = true := by simp
    by_cases hbig : (atl : Int) ≤ 65536
    case neg =>
      have PN := hid (show parseRecR b = none by rw [PG.out, if_neg]; rintro ⟨_, h1, _⟩; have h4 := HN.out; omega)
      have hbig2 : decide ((atl : Int) ≤ 65536) = false := decide_eq_false hbig
      go_wp2_with fail
      refine wpB_start (fun wx : World => Chg (fun k => k = w.heap.size) wm wx) (by kernel_rfl) ?_
      have hHeld : (fun wx : World => Chg (fun k => k = w.heap.size) wm wx) _ := (by first | assumption | exact Chg.drew (Chg.refl _ _) | (show _ ∧ _; refine ⟨?_, ?_⟩ <;> assumption) | (first | (with_reducible exact hHeld.trans HZ.out (fun _ h _ => h.elim)) | (with_reducible exact ((((hHeld.set (p := ⟨w.heap.size, 0, none⟩) (fun _ => rfl) (.int .i64 u1)).set (p := ⟨w.heap.size, 1, none⟩) (fun _ => rfl) (.int .i64 u2)).set (p := ⟨w.heap.size, 2, none⟩) (fun _ => rfl) (.int .i64 u3)).set (p := ⟨w.heap.size, 3, none⟩) (fun _ => rfl) (.slice A' xs.length c'))) | (with_reducible exact ((((((Chg.refl (fun k => k = w.heap.size) wm).set (p := ⟨w.heap.size, 0, none⟩) (fun _ => rfl) (.int .i64 u1)).set (p := ⟨w.heap.size, 1, none⟩) (fun _ => rfl) (.int .i64 u2)).set (p := ⟨w.heap.size, 2, none⟩) (fun _ => rfl) (.int .i64 u3)).set (p := ⟨w.heap.size, 3, none⟩) (fun _ => rfl) (.slice A' xs.length c'))).drew)))
      -- 0: t19 := load 67 t5 : 67
      refine wpB_take (i := 0) (v := ?_) (get_of_drop rfl) (by kernel_rfl) (by kernel_rfl) (by kernel_rfl) (by kernel_rfl) (fun _ _ _ h => h) (Or.inl ⟨by rfl, ?_⟩) hHeld ?_
      rotate_left
      · (intro w hSw; (try dsimp only at hSw); go_simp <;> with_reducible rfl)
      try simp only [Act.put, List.setIfInBounds_toArray, List.set_cons_zero, List.set_cons_succ]
      -- 1: t20 := move t4 : 116
      refine wpB_take (i := 1) (v := ?_) (get_of_drop rfl) (by kernel_rfl) (by kernel_rfl) (by kernel_rfl) (by kernel_rfl) (fun _ _ _ h => h) (Or.inl ⟨by rfl, ?_⟩) hHeld ?_
      rotate_left
      · (intro w hSw; (try dsimp only at hSw); go_simp <;> with_reducible rfl)
      try simp only [Act.put, List.setIfInBounds_toArray, List.set_cons_zero, List.set_cons_succ]
      -- 2: t21 := nilCheck t20 : 0
      refine wpB_take (i := 2) (v := ?_) (get_of_drop rfl) (by kernel_rfl) (by kernel_rfl) (by kernel_rfl) (by kernel_rfl) (fun _ _ _ h => h) (Or.inl ⟨by rfl, ?_⟩) hHeld ?_
      rotate_left
      · (intro w hSw; (try dsimp only at hSw); go_simp <;> with_reducible rfl)
      try simp only [Act.put, List.setIfInBounds_toArray, List.set_cons_zero, List.set_cons_succ]
      -- 3: t22 := fieldAddr 118 t21 2 : 0
      refine wpB_take (i := 3) (v := ?_) (get_of_drop rfl) (by kernel_rfl) (by kernel_rfl) (by kernel_rfl) (by kernel_rfl) (fun _ _ _ h => h) (Or.inl ⟨by rfl, ?_⟩) hHeld ?_
      rotate_left
      · (intro w hSw; (try dsimp only at hSw); go_simp <;> with_reducible rfl)
      try simp only [Act.put, List.setIfInBounds_toArray, List.set_cons_zero, List.set_cons_succ]
      -- 4: t23 := load 4 t22 : 4
      refine wpB_take (i := 4) (v := ?_) (get_of_drop rfl) (by kernel_rfl) (by kernel_rfl) (by kernel_rfl) (by kernel_rfl) (fun _ _ _ h => h) (Or.inl ⟨by rfl, ?_⟩) hHeld ?_
      rotate_left
      · (intro w hSw; (try dsimp only at hSw); go_simp <;> with_reducible rfl)
      try simp only [Act.put, List.setIfInBounds_toArray, List.set_cons_zero, List.set_cons_succ]
      -- 5: t24 := unOp UnOp.not 4 t23 : 4
      refine wpB_take (i := 5) (v := ?_) (get_of_drop rfl) (by kernel_rfl) (by kernel_rfl) (by kernel_rfl) (by kernel_rfl) (fun _ _ _ h => h) (Or.inl ⟨by rfl, ?_⟩) hHeld ?_
      rotate_left
      · (intro w hSw; (try dsimp only at hSw); go_simp <;> with_reducible rfl)
      try simp only [Act.put, List.setIfInBounds_toArray, List.set_cons_zero, List.set_cons_succ]
      -- 6: t25 := move t24 : 4
      refine wpB_take (i := 6) (v := ?_) (get_of_drop rfl) (by kernel_rfl) (by kernel_rfl) (by kernel_rfl) (by kernel_rfl) (fun _ _ _ h => h) (Or.inl ⟨by rfl, ?_⟩) hHeld ?_
      rotate_left
      · (intro w hSw; (try dsimp only at hSw); go_simp <;> with_reducible rfl)
      try simp only [Act.put, List.setIfInBounds_toArray, List.set_cons_zero, List.set_cons_succ]
      -- 7: t26 := move t4 : 116   [if ⟨6, true⟩]
      refine wpB_take (i := 7) (v := ?_) (get_of_drop rfl) (by kernel_rfl) (by kernel_rfl) (by kernel_rfl) (by kernel_rfl) (fun _ _ _ h => h) (Or.inl ⟨by rfl, ?_⟩) hHeld ?_
      rotate_left
      · (intro w hSw; (try dsimp only at hSw); go_simp <;> with_reducible rfl)
      try simp only [Act.put, List.setIfInBounds_toArray, List.set_cons_zero, List.set_cons_succ]
      -- 8: t27 := nilCheck t26 : 0   [if ⟨6, true⟩]
      refine wpB_take (i := 8) (v := ?_) (get_of_drop rfl) (by kernel_rfl) (by kernel_rfl) (by kernel_rfl) (by kernel_rfl) (fun _ _ _ h => h) (Or.inl ⟨by rfl, ?_⟩) hHeld ?_
      rotate_left
      · (intro w hSw; (try dsimp only at hSw); go_simp <;> with_reducible rfl)
      try simp only [Act.put, List.setIfInBounds_toArray, List.set_cons_zero, List.set_cons_succ]
      -- 9: t28 := fieldAddr 118 t27 1 : 0   [if ⟨6, true⟩]
      refine wpB_take (i := 9) (v := ?_) (get_of_drop rfl) (by kernel_rfl) (by kernel_rfl) (by kernel_rfl) (by kernel_rfl) (fun _ _ _ h => h) (Or.inl ⟨by rfl, ?_⟩) hHeld ?_
      rotate_left
      · (intro w hSw; (try dsimp only at hSw); go_simp <;> with_reducible rfl)
      try simp only [Act.put, List.setIfInBounds_toArray, List.set_cons_zero, List.set_cons_succ]
      -- 10: t29 := load 3 t28 : 3   [if ⟨6, true⟩]
      refine wpB_take (i := 10) (v := ?_) (get_of_drop rfl) (by kernel_rfl) (by kernel_rfl) (by kernel_rfl) (by kernel_rfl) (fun _ _ _ h => h) (Or.inl ⟨by rfl, ?_⟩) hHeld ?_
      rotate_left
      · (intro w hSw; (try dsimp only at hSw); go_simp <;> with_reducible rfl)
      try simp only [Act.put, List.setIfInBounds_toArray, List.set_cons_zero, List.set_cons_succ]
      -- 11: t30 := move t0 : 36   [if ⟨6, true⟩]
      refine wpB_take (i := 11) (v := ?_) (get_of_drop rfl) (by kernel_rfl) (by kernel_rfl) (by kernel_rfl) (by kernel_rfl) (fun _ _ _ h => h) (Or.inl ⟨by rfl, ?_⟩) hHeld ?_
      rotate_left
      · (intro w hSw; (try dsimp only at hSw); go_simp <;> with_reducible rfl)
      try simp only [Act.put, List.setIfInBounds_toArray, List.set_cons_zero, List.set_cons_succ]
      -- 12: t31 := len(t30) types [36] : 3   [if ⟨6, true⟩]
      refine wpB_take (i := 12) (v := ?_) (get_of_drop rfl) (by kernel_rfl) (by kernel_rfl) (by kernel_rfl) (by kernel_rfl) (fun _ _ _ h => h) (Or.inl ⟨by rfl, ?_⟩) hHeld ?_
      rotate_left
      · (intro w hSw; (try dsimp only at hSw); go_simp <;> with_reducible rfl)
      try simp only [Act.put, List.setIfInBounds_toArray, List.set_cons_zero, List.set_cons_succ]
      -- 13: t32 := binOp BinOp.eql 3 t29 t31 3 : 4   [if ⟨6, true⟩]
      refine wpB_take (i := 13) (v := ?_) (get_of_drop rfl) (by kernel_rfl) (by kernel_rfl) (by kernel_rfl) (by kernel_rfl) (fun _ _ _ h => h) (Or.inl ⟨by rfl, ?_⟩) hHeld ?_
      rotate_left
      · (intro w hSw; (try dsimp only at hSw); go_simp <;> with_reducible rfl)
      try simp only [Act.put, List.setIfInBounds_toArray, List.set_cons_zero, List.set_cons_succ]
      -- 14: t33 := pick t25 t32 #false : 4
      refine wpB_take (i := 14) (v := ?_) (get_of_drop rfl) (by kernel_rfl) (by kernel_rfl) (by kernel_rfl) (by kernel_rfl) (fun _ _ _ h => h) (Or.inl ⟨by rfl, ?_⟩) hHeld ?_
      rotate_left
      · (intro w hSw; (try dsimp only at hSw); go_simp <;> with_reducible rfl)
      try simp only [Act.put, List.setIfInBounds_toArray, List.set_cons_zero, List.set_cons_succ]
      -- 15: t34 := move t33 : 4
      refine wpB_take (i := 15) (v := ?_) (get_of_drop rfl) (by kernel_rfl) (by kernel_rfl) (by kernel_rfl) (by kernel_rfl) (fun _ _ _ h => h) (Or.inl ⟨by rfl, ?_⟩) hHeld ?_
      rotate_left
      · (intro w hSw; (try dsimp only at hSw); go_simp <;> with_reducible rfl)
      try simp only [Act.put, List.setIfInBounds_toArray, List.set_cons_zero, List.set_cons_succ]
      -- 16: t35 := move t0 : 36   [if ⟨15, true⟩]
      refine wpB_take (i := 16) (v := ?_) (get_of_drop rfl) (by kernel_rfl) (by kernel_rfl) (by kernel_rfl) (by kernel_rfl) (fun _ _ _ h => h) (Or.inl ⟨by rfl, ?_⟩) hHeld ?_
      rotate_left
      · (intro w hSw; (try dsimp only at hSw); go_simp <;> with_reducible rfl)
      try simp only [Act.put, List.setIfInBounds_toArray, List.set_cons_zero, List.set_cons_succ]
      -- 17: t36 := len(t35) types [36] : 3   [if ⟨15, true⟩]
      refine wpB_take (i := 17) (v := ?_) (get_of_drop rfl) (by kernel_rfl) (by kernel_rfl) (by kernel_rfl) (by kernel_rfl) (fun _ _ _ h => h) (Or.inl ⟨by rfl, ?_⟩) hHeld ?_
      rotate_left
      · (intro w hSw; (try dsimp only at hSw); go_simp <;> with_reducible rfl)
      try simp only [Act.put, List.setIfInBounds_toArray, List.set_cons_zero, List.set_cons_succ]
      -- 18: t37 := binOp BinOp.leq 3 t36 #i64:65536 3 : 4   [if ⟨15, true⟩]
      refine wpB_take (i := 18) (v := ?_) (get_of_drop rfl) (by kernel_rfl) (by kernel_rfl) (by kernel_rfl) (by kernel_rfl) (fun _ _ _ h => h) (Or.inl ⟨by rfl, ?_⟩) hHeld ?_
      rotate_left
      · (intro w hSw; (try dsimp only at hSw); go_simp <;> with_reducible rfl)
      try simp only [Act.put, List.setIfInBounds_toArray, List.set_cons_zero, List.set_cons_succ]
      -- 19: t38 := pick t34 t37 #false : 4
      refine wpB_take (i := 19) (v := ?_) (get_of_drop rfl) (by kernel_rfl) (by kernel_rfl) (by kernel_rfl) (by kernel_rfl) (fun _ _ _ h => h) (Or.inl ⟨by rfl, ?_⟩) hHeld ?_
      rotate_left
      · (intro w hSw; (try dsimp only at hSw); go_simp <;> with_reducible rfl)
      try simp only [Act.put, List.setIfInBounds_toArray, List.set_cons_zero, List.set_cons_succ]
      -- 20: t39 := move t38 : 4
      refine wpB_take (i := 20) (v := ?_) (get_of_drop rfl) (by kernel_rfl) (by kernel_rfl) (by kernel_rfl) (by kernel_rfl) (fun _ _ _ h => h) (Or.inl ⟨by rfl, ?_⟩) hHeld ?_
      rotate_left
      · (intro w hSw; (try dsimp only at hSw); go_simp <;> with_reducible rfl)
      try simp only [Act.put, List.setIfInBounds_toArray, List.set_cons_zero, List.set_cons_succ]
      -- 21: t40 := load 67 t5 : 67   [if ⟨20, true⟩]
      refine wpB_take (i := 21) (v := undef) (get_of_drop rfl) (by kernel_rfl) (by kernel_rfl) (by kernel_rfl) (by kernel_rfl) (fun _ _ _ h => h) (Or.inr ⟨by rfl, rfl⟩) hHeld ?_
      try simp only [Act.put, List.setIfInBounds_toArray, List.set_cons_zero, List.set_cons_succ]
      -- 22: t41 := CALL fn28(t40) : 4   [if ⟨20, true⟩]
      refine wpB_take (i := 22) (v := undef) (get_of_drop rfl) (by kernel_rfl) (by kernel_rfl) (by kernel_rfl) (by kernel_rfl) (fun _ _ _ h => h) (Or.inr ⟨by rfl, rfl⟩) hHeld ?_
      try simp only [Act.put, List.setIfInBounds_toArray, List.set_cons_zero, List.set_cons_succ]
      -- 23: t42 := pick t39 t41 #false : 4
      refine wpB_take (i := 23) (v := ?_) (get_of_drop rfl) (by kernel_rfl) (by kernel_rfl) (by kernel_rfl) (by kernel_rfl) (fun _ _ _ h => h) (Or.inl ⟨by rfl, ?_⟩) hHeld ?_
      rotate_left
      · (intro w hSw; (try dsimp only at hSw); go_simp <;> with_reducible rfl)
      try simp only [Act.put, List.setIfInBounds_toArray, List.set_cons_zero, List.set_cons_succ]
      -- 24: t- := store 67 t2 t19 : 0
      refine wpB_act (i := 24) (by kernel_rfl) (get_of_drop rfl) (fun K hK => ?_)
      go_simp
      refine hK.out _ _ ?_ (fun hHeld2 => ?_)
      · (first | (with_reducible exact hHeld.trans HZ.out (fun _ h _ => h.elim)) | (with_reducible exact ((((hHeld.set (p := ⟨w.heap.size, 0, none⟩) (fun _ => rfl) (.int .i64 u1)).set (p := ⟨w.heap.size, 1, none⟩) (fun _ => rfl) (.int .i64 u2)).set (p := ⟨w.heap.size, 2, none⟩) (fun _ => rfl) (.int .i64 u3)).set (p := ⟨w.heap.size, 3, none⟩) (fun _ => rfl) (.slice A' xs.length c'))) | (with_reducible exact ((((((Chg.refl (fun k => k = w.heap.size) wm).set (p := ⟨w.heap.size, 0, none⟩) (fun _ => rfl) (.int .i64 u1)).set (p := ⟨w.heap.size, 1, none⟩) (fun _ => rfl) (.int .i64 u2)).set (p := ⟨w.heap.size, 2, none⟩) (fun _ => rfl) (.int .i64 u3)).set (p := ⟨w.heap.size, 3, none⟩) (fun _ => rfl) (.slice A' xs.length c'))).drew))
      clear hHeld hK K
      have hHeld := hHeld2
      clear hHeld2
      try simp only [Act.put, List.setIfInBounds_toArray, List.set_cons_zero, List.set_cons_succ]
      -- 25: t3 := assign t42 : 4
      refine wpB_take (i := 25) (v := ?_) (get_of_drop rfl) (by kernel_rfl) (by kernel_rfl) (by kernel_rfl) (by kernel_rfl) (fun _ _ _ h => h) (Or.inl ⟨by rfl, ?_⟩) hHeld ?_
      rotate_left
      · (intro w hSw; (try dsimp only at hSw); go_simp <;> with_reducible rfl)
      try simp only [Act.put, List.setIfInBounds_toArray, List.set_cons_zero, List.set_cons_succ]
      refine wpB_done (by kernel_rfl) ?_ _
      clear hHeld hd1 x0 y0 f0 x1 y1 f1 x2 y2 f2 x3 y3 f3
      clear hd2
      go_wp2_with fail
      obtain ⟨PB, PC⟩ := put_blk (recCells (mkRec [u1, u2, u3] xs) A' xs.length c') wm _ BM.out rfl
      generalize hW : ((((wm.setCell ⟨w.heap.size, 0, none⟩ (.int .i64 u1)).setCell ⟨w.heap.size, 1, none⟩ (.int .i64 u2)).setCell ⟨w.heap.size, 2, none⟩ (.int .i64 u3)).setCell ⟨w.heap.size, 3, none⟩ (.slice A' xs.length c')) = W0
      have PB0 : W0.heap[w.heap.size]? = some (.cells (recCells (mkRec [u1, u2, u3] xs) A' xs.length c').toArray 67 (0, 0)) := by rw [← hW]; exact PB
      have PC0 : Chg (fun k => k = w.heap.size) wm W0 := by rw [← hW]; exact PC
      obtain ⟨W, hW2⟩ : ∃ W, W = W0.drew := ⟨_, rfl⟩
      rw [← hW2]
      have PB' : W.heap[w.heap.size]? = some (.cells (recCells (mkRec [u1, u2, u3] xs) A' xs.length c').toArray 67 (0, 0)) := by rw [hW2]; exact PB0
      have PC' : Chg (fun k => k = w.heap.size) wm W := by rw [hW2]; exact PC0.drew
      clear PB0 PC0 hW2
      clear PB PC hW
      have z0 : W.cell? ⟨w.heap.size, 0, none⟩ = some (.int .i64 u1) := by rw [cellAt PB']; rfl
      have z1 : W.cell? ⟨w.heap.size, 1, none⟩ = some (.int .i64 u2) := by rw [cellAt PB']; rfl
      have z2 : W.cell? ⟨w.heap.size, 2, none⟩ = some (.int .i64 u3) := by rw [cellAt PB']; rfl
      have z3 : W.cell? ⟨w.heap.size, 3, none⟩ = some (.slice A' xs.length c') := by rw [cellAt PB']; rfl
      refine bodyPost_ret (v := .tuple #[.agg #[.int .i64 u1, .int .i64 u2, .int .i64 u3, .slice A' xs.length c'], .bool false]) (by simp [results, Try.results43, go_sem, z0, z1, z2, z3]) rfl ?_
      have sm := HSM.out
      have hsa' := hsa.out
      exact ⟨mkRec [u1, u2, u3] xs, A', xs.length, c', false, rfl, PN.out, WF.out, (((HXM.out).chg PC' (fun k hk e => by have q1 : wa.heap.size ≤ k := hk.1; have q2 : w.heap.size < p := hpw; omega)).mono (fun k hk => Nat.le_trans hsa' hk.1)), (CE.out).trans PC' (fun k hk hl => by subst hk; exact absurd hl (Nat.lt_irrefl _))⟩
    have HBG := hid hbig
    have hbig2 : decide ((atl : Int) ≤ 65536) = true := decide_eq_true hbig
    clear hbig
    go_wp2_with fail
    refine wpB_start (fun wx : World => Chg (fun k => k = w.heap.size) wm wx) (by kernel_rfl) ?_
    have hHeld : (fun wx : World => Chg (fun k => k = w.heap.size) wm wx) _ := (by first | assumption | exact Chg.drew (Chg.refl _ _) | (show _ ∧ _; refine ⟨?_, ?_⟩ <;> assumption) | (first | (with_reducible exact hHeld.trans HZ.out (fun _ h _ => h.elim)) | (with_reducible exact ((((hHeld.set (p := ⟨w.heap.size, 0, none⟩) (fun _ => rfl) (.int .i64 u1)).set (p := ⟨w.heap.size, 1, none⟩) (fun _ => rfl) (.int .i64 u2)).set (p := ⟨w.heap.size, 2, none⟩) (fun _ => rfl) (.int .i64 u3)).set (p := ⟨w.heap.size, 3, none⟩) (fun _ => rfl) (.slice A' xs.length c'))) | (with_reducible exact ((((((Chg.refl (fun k => k = w.heap.size) wm).set (p := ⟨w.heap.size, 0, none⟩) (fun _ => rfl) (.int .i64 u1)).set (p := ⟨w.heap.size, 1, none⟩) (fun _ => rfl) (.int .i64 u2)).set (p := ⟨w.heap.size, 2, none⟩) (fun _ => rfl) (.int .i64 u3)).set (p := ⟨w.heap.size, 3, none⟩) (fun _ => rfl) (.slice A' xs.length c'))).drew)))
    -- 0: t19 := load 67 t5 : 67
    refine wpB_take (i := 0) (v := ?_) (get_of_drop rfl) (by kernel_rfl) (by kernel_rfl) (by kernel_rfl) (by kernel_rfl) (fun _ _ _ h => h) (Or.inl ⟨by rfl, ?_⟩) hHeld ?_
    rotate_left
    · (intro w hSw; (try dsimp only at hSw); go_simp <;> with_reducible rfl)
    try simp only [Act.put, List.setIfInBounds_toArray, List.set_cons_zero, List.set_cons_succ]
    -- 1: t20 := move t4 : 116
    refine wpB_take (i := 1) (v := ?_) (get_of_drop rfl) (by kernel_rfl) (by kernel_rfl) (by kernel_rfl) (by kernel_rfl) (fun _ _ _ h => h) (Or.inl ⟨by rfl, ?_⟩) hHeld ?_
    rotate_left
    · (intro w hSw; (try dsimp only at hSw); go_simp <;> with_reducible rfl)
    try simp only [Act.put, List.setIfInBounds_toArray, List.set_cons_zero, List.set_cons_succ]
    -- 2: t21 := nilCheck t20 : 0
    refine wpB_take (i := 2) (v := ?_) (get_of_drop rfl) (by kernel_rfl) (by kernel_rfl) (by kernel_rfl) (by kernel_rfl) (fun _ _ _ h => h) (Or.inl ⟨by rfl, ?_⟩) hHeld ?_
    rotate_left
    · (intro w hSw; (try dsimp only at hSw); go_simp <;> with_reducible rfl)
    try simp only [Act.put, List.setIfInBounds_toArray, List.set_cons_zero, List.set_cons_succ]
    -- 3: t22 := fieldAddr 118 t21 2 : 0
    refine wpB_take (i := 3) (v := ?_) (get_of_drop rfl) (by kernel_rfl) (by kernel_rfl) (by kernel_rfl) (by kernel_rfl) (fun _ _ _ h => h) (Or.inl ⟨by rfl, ?_⟩) hHeld ?_
    rotate_left
    · (intro w hSw; (try dsimp only at hSw); go_simp <;> with_reducible rfl)
    try simp only [Act.put, List.setIfInBounds_toArray, List.set_cons_zero, List.set_cons_succ]
    -- 4: t23 := load 4 t22 : 4
    refine wpB_take (i := 4) (v := ?_) (get_of_drop rfl) (by kernel_rfl) (by kernel_rfl) (by kernel_rfl) (by kernel_rfl) (fun _ _ _ h => h) (Or.inl ⟨by rfl, ?_⟩) hHeld ?_
    rotate_left
    · (intro w hSw; (try dsimp only at hSw); go_simp <;> with_reducible rfl)
    try simp only [Act.put, List.setIfInBounds_toArray, List.set_cons_zero, List.set_cons_succ]
    -- 5: t24 := unOp UnOp.not 4 t23 : 4
    refine wpB_take (i := 5) (v := ?_) (get_of_drop rfl) (by kernel_rfl) (by kernel_rfl) (by kernel_rfl) (by kernel_rfl) (fun _ _ _ h => h) (Or.inl ⟨by rfl, ?_⟩) hHeld ?_
    rotate_left
    · (intro w hSw; (try dsimp only at hSw); go_simp <;> with_reducible rfl)
    try simp only [Act.put, List.setIfInBounds_toArray, List.set_cons_zero, List.set_cons_succ]
    -- 6: t25 := move t24 : 4
    refine wpB_take (i := 6) (v := ?_) (get_of_drop rfl) (by kernel_rfl) (by kernel_rfl) (by kernel_rfl) (by kernel_rfl) (fun _ _ _ h => h) (Or.inl ⟨by rfl, ?_⟩) hHeld ?_
    rotate_left
    · (intro w hSw; (try dsimp only at hSw); go_simp <;> with_reducible rfl)
    try simp only [Act.put, List.setIfInBounds_toArray, List.set_cons_zero, List.set_cons_succ]
    -- 7: t26 := move t4 : 116   [if ⟨6, true⟩]
    refine wpB_take (i := 7) (v := ?_) (get_of_drop rfl) (by kernel_rfl) (by kernel_rfl) (by kernel_rfl) (by kernel_rfl) (fun _ _ _ h => h) (Or.inl ⟨by rfl, ?_⟩) hHeld ?_
    rotate_left
    · (intro w hSw; (try dsimp only at hSw); go_simp <;> with_reducible rfl)
    try simp only [Act.put, List.setIfInBounds_toArray, List.set_cons_zero, List.set_cons_succ]
    -- 8: t27 := nilCheck t26 : 0   [if ⟨6, true⟩]
    refine wpB_take (i := 8) (v := ?_) (get_of_drop rfl) (by kernel_rfl) (by kernel_rfl) (by kernel_rfl) (by kernel_rfl) (fun _ _ _ h => h) (Or.inl ⟨by rfl, ?_⟩) hHeld ?_
    rotate_left
    · (intro w hSw; (try dsimp only at hSw); go_simp <;> with_reducible rfl)
    try simp only [Act.put, List.setIfInBounds_toArray, List.set_cons_zero, List.set_cons_succ]
    -- 9: t28 := fieldAddr 118 t27 1 : 0   [if ⟨6, true⟩]
    refine wpB_take (i := 9) (v := ?_) (get_of_drop rfl) (by kernel_rfl) (by kernel_rfl) (by kernel_rfl) (by kernel_rfl) (fun _ _ _ h => h) (Or.inl ⟨by rfl, ?_⟩) hHeld ?_
    rotate_left
    · (intro w hSw; (try dsimp only at hSw); go_simp <;> with_reducible rfl)
    try simp only [Act.put, List.setIfInBounds_toArray, List.set_cons_zero, List.set_cons_succ]
    -- 10: t29 := load 3 t28 : 3   [if ⟨6, true⟩]
    refine wpB_take (i := 10) (v := ?_) (get_of_drop rfl) (by kernel_rfl) (by kernel_rfl) (by kernel_rfl) (by kernel_rfl) (fun _ _ _ h => h) (Or.inl ⟨by rfl, ?_⟩) hHeld ?_
    rotate_left
    · (intro w hSw; (try dsimp only at hSw); go_simp <;> with_reducible rfl)
    try simp only [Act.put, List.setIfInBounds_toArray, List.set_cons_zero, List.set_cons_succ]
    -- 11: t30 := move t0 : 36   [if ⟨6, true⟩]
    refine wpB_take (i := 11) (v := ?_) (get_of_drop rfl) (by kernel_rfl) (by kernel_rfl) (by kernel_rfl) (by kernel_rfl) (fun _ _ _ h => h) (Or.inl ⟨by rfl, ?_⟩) hHeld ?_
    rotate_left
    · (intro w hSw; (try dsimp only at hSw); go_simp <;> with_reducible rfl)
    try simp only [Act.put, List.setIfInBounds_toArray, List.set_cons_zero, List.set_cons_succ]
    -- 12: t31 := len(t30) types [36] : 3   [if ⟨6, true⟩]
    refine wpB_take (i := 12) (v := ?_) (get_of_drop rfl) (by kernel_rfl) (by kernel_rfl) (by kernel_rfl) (by kernel_rfl) (fun _ _ _ h => h) (Or.inl ⟨by rfl, ?_⟩) hHeld ?_
    rotate_left
    · (intro w hSw; (try dsimp only at hSw); go_simp <;> with_reducible rfl)
    try simp only [Act.put, List.setIfInBounds_toArray, List.set_cons_zero, List.set_cons_succ]
    -- 13: t32 := binOp BinOp.eql 3 t29 t31 3 : 4   [if ⟨6, true⟩]
    refine wpB_take (i := 13) (v := ?_) (get_of_drop rfl) (by kernel_rfl) (by kernel_rfl) (by kernel_rfl) (by kernel_rfl) (fun _ _ _ h => h) (Or.inl ⟨by rfl, ?_⟩) hHeld ?_
    rotate_left
    · (intro w hSw; (try dsimp only at hSw); go_simp <;> with_reducible rfl)
    try simp only [Act.put, List.setIfInBounds_toArray, List.set_cons_zero, List.set_cons_succ]
    -- 14: t33 := pick t25 t32 #false : 4
    refine wpB_take (i := 14) (v := ?_) (get_of_drop rfl) (by kernel_rfl) (by kernel_rfl) (by kernel_rfl) (by kernel_rfl) (fun _ _ _ h => h) (Or.inl ⟨by rfl, ?_⟩) hHeld ?_
    rotate_left
    · (intro w hSw; (try dsimp only at hSw); go_simp <;> with_reducible rfl)
    try simp only [Act.put, List.setIfInBounds_toArray, List.set_cons_zero, List.set_cons_succ]
    -- 15: t34 := move t33 : 4
    refine wpB_take (i := 15) (v := ?_) (get_of_drop rfl) (by kernel_rfl) (by kernel_rfl) (by kernel_rfl) (by kernel_rfl) (fun _ _ _ h => h) (Or.inl ⟨by rfl, ?_⟩) hHeld ?_
    rotate_left
    · (intro w hSw; (try dsimp only at hSw); go_simp <;> with_reducible rfl)
    try simp only [Act.put, List.setIfInBounds_toArray, List.set_cons_zero, List.set_cons_succ]
    -- 16: t35 := move t0 : 36   [if ⟨15, true⟩]
    refine wpB_take (i := 16) (v := ?_) (get_of_drop rfl) (by kernel_rfl) (by kernel_rfl) (by kernel_rfl) (by kernel_rfl) (fun _ _ _ h => h) (Or.inl ⟨by rfl, ?_⟩) hHeld ?_
    rotate_left
    · (intro w hSw; (try dsimp only at hSw); go_simp <;> with_reducible rfl)
    try simp only [Act.put, List.setIfInBounds_toArray, List.set_cons_zero, List.set_cons_succ]
    -- 17: t36 := len(t35) types [36] : 3   [if ⟨15, true⟩]
    refine wpB_take (i := 17) (v := ?_) (get_of_drop rfl) (by kernel_rfl) (by kernel_rfl) (by kernel_rfl) (by kernel_rfl) (fun _ _ _ h => h) (Or.inl ⟨by rfl, ?_⟩) hHeld ?_
    rotate_left
    · (intro w hSw; (try dsimp only at hSw); go_simp <;> with_reducible rfl)
    try simp only [Act.put, List.setIfInBounds_toArray, List.set_cons_zero, List.set_cons_succ]
    -- 18: t37 := binOp BinOp.leq 3 t36 #i64:65536 3 : 4   [if ⟨15, true⟩]
    refine wpB_take (i := 18) (v := ?_) (get_of_drop rfl) (by kernel_rfl) (by kernel_rfl) (by kernel_rfl) (by kernel_rfl) (fun _ _ _ h => h) (Or.inl ⟨by rfl, ?_⟩) hHeld ?_
    rotate_left
    · (intro w hSw; (try dsimp only at hSw); go_simp <;> with_reducible rfl)
    try simp only [Act.put, List.setIfInBounds_toArray, List.set_cons_zero, List.set_cons_succ]
    -- 19: t38 := pick t34 t37 #false : 4
    refine wpB_take (i := 19) (v := ?_) (get_of_drop rfl) (by kernel_rfl) (by kernel_rfl) (by kernel_rfl) (by kernel_rfl) (fun _ _ _ h => h) (Or.inl ⟨by rfl, ?_⟩) hHeld ?_
    rotate_left
    · (intro w hSw; (try dsimp only at hSw); go_simp <;> with_reducible rfl)
    try simp only [Act.put, List.setIfInBounds_toArray, List.set_cons_zero, List.set_cons_succ]
    -- 20: t39 := move t38 : 4
    refine wpB_take (i := 20) (v := ?_) (get_of_drop rfl) (by kernel_rfl) (by kernel_rfl) (by kernel_rfl) (by kernel_rfl) (fun _ _ _ h => h) (Or.inl ⟨by rfl, ?_⟩) hHeld ?_
    rotate_left
    · (intro w hSw; (try dsimp only at hSw); go_simp <;> with_reducible rfl)
    try simp only [Act.put, List.setIfInBounds_toArray, List.set_cons_zero, List.set_cons_succ]
    -- 21: t40 := load 67 t5 : 67   [if ⟨20, true⟩]
    refine wpB_take (i := 21) (v := ?_) (get_of_drop rfl) (by kernel_rfl) (by kernel_rfl) (by kernel_rfl) (by kernel_rfl) (fun _ _ _ h => h) (Or.inl ⟨by rfl, ?_⟩) hHeld ?_
    rotate_left
    · (intro w hSw; (try dsimp only at hSw); go_simp <;> with_reducible rfl)
    try simp only [Act.put, List.setIfInBounds_toArray, List.set_cons_zero, List.set_cons_succ]
    -- 22: t41 := CALL fn28(t40) : 4   [if ⟨20, true⟩]
    refine wpB_act (i := 22) (by kernel_rfl) (get_of_drop rfl) (fun K hK => ?_)
    go_simp
    refine (refrecright_any (m := mkRec [u1, u2, u3] xs) (HXM.out.chg ((Chg.refl (fun _ => False) wm).drew) (fun _ _ h => h))).mono ?_
    rintro e wz ⟨rfl, h2⟩
    have yz0 : wz.cell? ⟨w.heap.size, 0, none⟩ = some (.int .i64 0) := h2.cell y0 (fun h => h)
    have fzz0 : wz.frozen? ⟨w.heap.size, 0, none⟩ = false := freeAt (h2.blk (show wm.drew.heap[w.heap.size]? = _ from BM.out) (fun h => h)) 0
    have yz1 : wz.cell? ⟨w.heap.size, 1, none⟩ = some (.int .i64 0) := h2.cell y1 (fun h => h)
    have fzz1 : wz.frozen? ⟨w.heap.size, 1, none⟩ = false := freeAt (h2.blk (show wm.drew.heap[w.heap.size]? = _ from BM.out) (fun h => h)) 1
    have yz2 : wz.cell? ⟨w.heap.size, 2, none⟩ = some (.int .i64 0) := h2.cell y2 (fun h => h)
    have fzz2 : wz.frozen? ⟨w.heap.size, 2, none⟩ = false := freeAt (h2.blk (show wm.drew.heap[w.heap.size]? = _ from BM.out) (fun h => h)) 2
    have yz3 : wz.cell? ⟨w.heap.size, 3, none⟩ = some (.slice none 0 0) := h2.cell y3 (fun h => h)
    have fzz3 : wz.frozen? ⟨w.heap.size, 3, none⟩ = false := freeAt (h2.blk (show wm.drew.heap[w.heap.size]? = _ from BM.out) (fun h => h)) 3
    have HZ := hid h2
    clear h2
    refine hK.out _ _ ?_ (fun hHeld2 => ?_)
    · (first | (with_reducible exact hHeld.trans HZ.out (fun _ h _ => h.elim)) | (with_reducible exact ((((hHeld.set (p := ⟨w.heap.size, 0, none⟩) (fun _ => rfl) (.int .i64 u1)).set (p := ⟨w.heap.size, 1, none⟩) (fun _ => rfl) (.int .i64 u2)).set (p := ⟨w.heap.size, 2, none⟩) (fun _ => rfl) (.int .i64 u3)).set (p := ⟨w.heap.size, 3, none⟩) (fun _ => rfl) (.slice A' xs.length c'))) | (with_reducible exact ((((((Chg.refl (fun k => k = w.heap.size) wm).set (p := ⟨w.heap.size, 0, none⟩) (fun _ => rfl) (.int .i64 u1)).set (p := ⟨w.heap.size, 1, none⟩) (fun _ => rfl) (.int .i64 u2)).set (p := ⟨w.heap.size, 2, none⟩) (fun _ => rfl) (.int .i64 u3)).set (p := ⟨w.heap.size, 3, none⟩) (fun _ => rfl) (.slice A' xs.length c'))).drew))
    clear hHeld hK K
    have hHeld := hHeld2
    clear hHeld2
    try simp only [Act.put, List.setIfInBounds_toArray, List.set_cons_zero, List.set_cons_succ]
    -- 23: t42 := pick t39 t41 #false : 4
    refine wpB_take (i := 23) (v := ?_) (get_of_drop rfl) (by kernel_rfl) (by kernel_rfl) (by kernel_rfl) (by kernel_rfl) (fun _ _ _ h => h) (Or.inl ⟨by rfl, ?_⟩) hHeld ?_
    rotate_left
    · (intro w hSw; (try dsimp only at hSw); go_simp <;> with_reducible rfl)
    try simp only [Act.put, List.setIfInBounds_toArray, List.set_cons_zero, List.set_cons_succ]
    -- 24: t- := store 67 t2 t19 : 0
    refine wpB_act (i := 24) (by kernel_rfl) (get_of_drop rfl) (fun K hK => ?_)
    go_simp
    refine hK.out _ _ ?_ (fun hHeld2 => ?_)
    · (first | (with_reducible exact hHeld.trans HZ.out (fun _ h _ => h.elim)) | (with_reducible exact ((((hHeld.set (p := ⟨w.heap.size, 0, none⟩) (fun _ => rfl) (.int .i64 u1)).set (p := ⟨w.heap.size, 1, none⟩) (fun _ => rfl) (.int .i64 u2)).set (p := ⟨w.heap.size, 2, none⟩) (fun _ => rfl) (.int .i64 u3)).set (p := ⟨w.heap.size, 3, none⟩) (fun _ => rfl) (.slice A' xs.length c'))) | (with_reducible exact ((((((Chg.refl (fun k => k = w.heap.size) wm).set (p := ⟨w.heap.size, 0, none⟩) (fun _ => rfl) (.int .i64 u1)).set (p := ⟨w.heap.size, 1, none⟩) (fun _ => rfl) (.int .i64 u2)).set (p := ⟨w.heap.size, 2, none⟩) (fun _ => rfl) (.int .i64 u3)).set (p := ⟨w.heap.size, 3, none⟩) (fun _ => rfl) (.slice A' xs.length c'))).drew))
    clear hHeld hK K
    have hHeld := hHeld2
    clear hHeld2
    try simp only [Act.put, List.setIfInBounds_toArray, List.set_cons_zero, List.set_cons_succ]
    -- 25: t3 := assign t42 : 4
    refine wpB_take (i := 25) (v := ?_) (get_of_drop rfl) (by kernel_rfl) (by kernel_rfl) (by kernel_rfl) (by kernel_rfl) (fun _ _ _ h => h) (Or.inl ⟨by rfl, ?_⟩) hHeld ?_
    rotate_left
    · (intro w hSw; (try dsimp only at hSw); go_simp <;> with_reducible rfl)
    try simp only [Act.put, List.setIfInBounds_toArray, List.set_cons_zero, List.set_cons_succ]
    refine wpB_done (by kernel_rfl) ?_ _
    have CZ := hid ((Chg.refl (fun _ => False) wm).drew.trans HZ.out (fun _ h _ => h))
    clear hHeld hd2 hd1 x0 y0 f0 x1 y1 f1 x2 y2 f2 x3 y3 f3 yz0 fzz0 yz1 fzz1 yz2 fzz2 yz3 fzz3
    obtain ⟨ok, hok⟩ : ∃ ok, ok = recR (mkRec [u1, u2, u3] xs) := ⟨_, rfl⟩
    have HOK := hid hok
    rw [← hok]
    clear hok
    go_wp2_with fail
    obtain ⟨PB, PC⟩ := put_blk (recCells (mkRec [u1, u2, u3] xs) A' xs.length c') wz _ (CZ.out.blk BM.out (fun h => h)) rfl
    generalize hW : ((((wz.setCell ⟨w.heap.size, 0, none⟩ (.int .i64 u1)).setCell ⟨w.heap.size, 1, none⟩ (.int .i64 u2)).setCell ⟨w.heap.size, 2, none⟩ (.int .i64 u3)).setCell ⟨w.heap.size, 3, none⟩ (.slice A' xs.length c')) = W
    have PB' : W.heap[w.heap.size]? = some (.cells (recCells (mkRec [u1, u2, u3] xs) A' xs.length c').toArray 67 (0, 0)) := by rw [← hW]; exact PB
    have PC' : Chg (fun k => k = w.heap.size) wz W := by rw [← hW]; exact PC
    clear PB PC hW
    have z0 : W.cell? ⟨w.heap.size, 0, none⟩ = some (.int .i64 u1) := by rw [cellAt PB']; rfl
    have z1 : W.cell? ⟨w.heap.size, 1, none⟩ = some (.int .i64 u2) := by rw [cellAt PB']; rfl
    have z2 : W.cell? ⟨w.heap.size, 2, none⟩ = some (.int .i64 u3) := by rw [cellAt PB']; rfl
    have z3 : W.cell? ⟨w.heap.size, 3, none⟩ = some (.slice A' xs.length c') := by rw [cellAt PB']; rfl
    refine bodyPost_ret (v := .tuple #[.agg #[.int .i64 u1, .int .i64 u2, .int .i64 u3, .slice A' xs.length c'], .bool ok]) (by simp [results, Try.results43, go_sem, z0, z1, z2, z3]) rfl ?_
    have sm := HSM.out
    have hsa' := hsa.out
    exact ⟨mkRec [u1, u2, u3] xs, A', xs.length, c', ok, rfl, by rw [PG.out, HOK.out]; have h4 := HN.out; have h5 := HBG.out; by_cases hr : recR (mkRec [u1, u2, u3] xs) = true <;> simp [hr, ← h4]; omega, WF.out, (((HXM.out.chg CZ.out (fun _ _ h => h)).chg PC' (fun k hk e => by have q1 : wa.heap.size ≤ k := hk.1; have q2 : w.heap.size < p := hpw; omega)).mono (fun k hk => Nat.le_trans hsa' hk.1)), (CE.out.trans CZ.out (fun _ h _ => h)).trans PC' (fun k hk hl => by subst hk; exact absurd hl (Nat.lt_irrefl _))⟩
end Go.Proofs.Ytfpjickdkkhndaa.Pa


/- The document's Parse and ParseRecord. -/

namespace Go.Proofs.Ytfpjickdkkhndaa.Pa

set_option linter.unusedVariables false

set_option linter.unusedSimpArgs false

open Go.RowKit Go.Proofs.Ytfpjickdkkhndaa.C

attribute [local go_sem] max2_int min2_int max_two min_two

def rdMsgR : List UInt8 → Option (Msg × List UInt8) := thenRd (rdList rdNum 7) (rdSeq 1 rdEntryR) mkMsg
def parseMsgR (b : List UInt8) : Option Msg := (rdMsgR b).bind fun q => if q.2 = [] ∧ b.length ≤ 65536 ∧ msgR q.1 = true then some q.1 else none
def ParsedMsg (w : World) (b : List UInt8) (e' : Ending) (w' : World) : Prop :=
  ∃ (m : Msg) (A' : Option Addr) (n' c' : Nat) (ok : Bool), e' = .returned (.tuple #[.agg #[.int .i64 m.kind, .int .i64 m.view, .int .i64 m.src, .int .i64 m.dst, .int .i64 m.op, .int .i64 m.commit, .int .i64 m.normal, .slice A' n' c'], .bool ok]) ∧ parseMsgR b = (if ok = true then some m else none) ∧ (∀ u ∈ m.nums, (Lit.int .i64 u).wf = true) ∧ Ty.At entryK w' (fun k => w.heap.size ≤ k) A' n' c' m.log ∧ Chg (fun _ => False) w w'
theorem parseMsgR_bad {b : List UInt8} {m : Msg} {at' : Nat} (h : (left b 0 false).bind rdMsgR = (left b at' true).map fun r => (m, r)) : parseMsgR b = none := by
  rw [left_some, List.drop_zero, Option.bind_some, left_none, Option.map_none] at h
  unfold parseMsgR
  rw [h]
  rfl
theorem parseMsgR_good {b : List UInt8} {m : Msg} {at' : Nat} (h : (left b 0 false).bind rdMsgR = (left b at' false).map fun r => (m, r)) : parseMsgR b = if b.drop at' = [] ∧ b.length ≤ 65536 ∧ msgR m = true then some m else none := by
  rw [left_some, List.drop_zero, Option.bind_some, left_some, Option.map_some] at h
  unfold parseMsgR
  rw [h]
  rfl
end Go.Proofs.Ytfpjickdkkhndaa.Pa


/- The contracts of the codec's written and whole, of Encode and EncodeRecord. -/

namespace Go.Proofs.Ytfpjickdkkhndaa.Pa

set_option linter.unusedVariables false

set_option linter.unusedSimpArgs false

open Go.RowKit Go.Proofs.Ytfpjickdkkhndaa.C

attribute [local go_sem] max2_int min2_int max_two min_two

theorem written_no {w : World} {g : Nat} : Calls Try.prog 58 #[.pointer (some ⟨g, 0, none⟩), .bool false] w fun e w' => e = .returned (.tuple #[.slice none 0 0, .int .i64 10]) ∧ w = w' := by
  go_enter Try.func58, Try.ntmps58
  go_wp2_with fail
  go_ret2
  exact ⟨rfl, rfl⟩
theorem written_yes {w : World} {g n c : Nat} {A : Option Addr} (h : w.cell? ⟨g, 0, none⟩ = some (.slice A n c)) (hn : n ≤ 1000000000) : Calls Try.prog 58 #[.pointer (some ⟨g, 0, none⟩), .bool true] w fun e w' => e = .returned (if n ≤ 65536 then .tuple #[.slice A n c, .int .i64 0] else .tuple #[.slice none 0 0, .int .i64 12]) ∧ w = w' := by
  by_cases hb : n ≤ 65536
  · rw [if_pos hb]
    have hb2 : ¬ (65536 : Int) < (n : Int) := by omega
    clear hb
    go_enter Try.func58, Try.ntmps58
    go_wp2_with fail
    go_ret2
    exact ⟨rfl, rfl⟩
  · rw [if_neg hb]
    have hb2 : (65536 : Int) < (n : Int) := by omega
    clear hb
    go_enter Try.func58, Try.ntmps58
    go_wp2_with fail
    go_ret2
    exact ⟨rfl, rfl⟩
set_option maxHeartbeats 2000000 in
theorem whole_any {w : World} {B g : Nat} {A : Option Addr} {n c : Nat} {b : List UInt8} {at_ : Nat} {bad : Bool} (h : Rd w B g A n c b at_ bad) (hn : n ≤ 1000000000) :
    Calls Try.prog 55 #[.pointer (some ⟨g, 0, none⟩)] w fun e w' => e = .returned (.bool (!bad && decide (at_ = n) && decide (n ≤ 65536))) ∧ ∃ q, w' = w.drewN q := by
  obtain ⟨d0, d1, d2, d3⟩ := h.cells
  have hle := h.le
  clear h d2
  cases bad with
  | true =>
    go_enter Try.func55, Try.ntmps55
    go_wp2_with fail
    go_quiet (fail)
    go_wp2_with fail
    go_ret
    exact ⟨rfl, _, rfl⟩
  | false =>
    by_cases ha : at_ = n
    · subst ha
      have hb : ((at_ : Int) == (at_ : Int)) = true := by simp
      by_cases hbig : at_ ≤ 65536
      · rw [decide_eq_true hbig]
        have hb2 : (at_ : Int) ≤ 65536 := by omega
        clear hbig
        go_enter Try.func55, Try.ntmps55
        go_wp2_with fail
        go_quiet (fail)
        go_wp2_with fail
        go_ret
        exact ⟨by simp, _, rfl⟩
      · rw [decide_eq_false hbig]
        have hb2 : decide ((at_ : Int) ≤ 65536) = false := decide_eq_false (by omega)
        clear hbig
        go_enter Try.func55, Try.ntmps55
        go_wp2_with fail
        go_quiet (fail)
        go_wp2_with fail
        go_ret
        exact ⟨by simp [hb2], _, rfl⟩
    · have hb : ((at_ : Int) == (n : Int)) = false := by simpa using (fun h => ha (by omega) : ¬ (at_ : Int) = (n : Int))
      rw [decide_eq_false ha]
      clear ha
      go_enter Try.func55, Try.ntmps55
      go_wp2_with fail
      go_quiet (fail)
      go_wp2_with fail
      go_ret
      exact ⟨rfl, _, rfl⟩
theorem logR_ok {lo hi : Int} {l : List Entry} (h : logR lo hi l = true) (hh : hi ≤ 100) : (∀ e ∈ l, EntryOk e) ∧ l.length ≤ 100 := by
  unfold logR at h
  simp only [Bool.and_eq_true, decide_eq_true_eq, List.all_eq_true] at h
  exact ⟨fun e he => entryR_ok (h.2 e he), by omega⟩
theorem msgR_ok {m : Msg} (h : msgR m = true) : MsgOk m := by
  unfold msgR at h
  simp only [Bool.and_eq_true] at h
  obtain ⟨⟨⟨⟨⟨⟨⟨h1, h2⟩, h3⟩, h4⟩, h5⟩, h6⟩, h7⟩, h8⟩ := h
  have hl : (∀ e ∈ m.log, EntryOk e) ∧ m.log.length ≤ 100 := by
    split at h8
    · exact logR_ok h8 (by decide)
    · split at h8
      · exact logR_ok h8 (by decide)
      · have : m.log = [] := List.eq_nil_of_length_eq_zero (of_decide_eq_true h8)
        rw [this]
        exact ⟨(fun e he => by cases he), by simp⟩
  have q1 := of_decide_eq_true h1
  have q2 := of_decide_eq_true h2
  have q3 := of_decide_eq_true h3
  have q4 := of_decide_eq_true h4
  have q5 := of_decide_eq_true h5
  have q6 := of_decide_eq_true h6
  have q7 := of_decide_eq_true h7
  refine ⟨?_, hl.1, hl.2⟩
  intro u hu
  simp [Msg.nums] at hu
  unfold NumOk
  omega
theorem recR_ok {m : Rec} (h : recR m = true) : RecOk m := by
  unfold recR at h
  simp only [Bool.and_eq_true] at h
  obtain ⟨⟨⟨h1, h2⟩, h3⟩, h8⟩ := h
  have hl : (∀ e ∈ m.log, EntryOk e) ∧ m.log.length ≤ 100 := by
    split at h8
    · exact logR_ok h8 (by decide)
    · have : m.log = [] := List.eq_nil_of_length_eq_zero (of_decide_eq_true h8)
      rw [this]
      exact ⟨(fun e he => by cases he), by simp⟩
  have q1 := of_decide_eq_true h1
  have q2 := of_decide_eq_true h2
  have q3 := of_decide_eq_true h3
  refine ⟨?_, hl.1, hl.2⟩
  intro u hu
  simp [Rec.nums] at hu
  unfold NumOk
  omega

/-- What Encode tells. -/
def EncMsg (m : Msg) (w : World) (e' : Ending) (w' : World) : Prop :=
  Chg (fun _ => False) w w' ∧ ((msgR m = false ∧ e' = .returned (.tuple #[.slice none 0 0, .int .i64 10])) ∨ (msgR m = true ∧ 65536 < (msgB m).length ∧ e' = .returned (.tuple #[.slice none 0 0, .int .i64 12])) ∨
    (msgR m = true ∧ (msgB m).length ≤ 65536 ∧ ∃ A' c', e' = .returned (.tuple #[.slice A' (msgB m).length c', .int .i64 0]) ∧ Byt w' (fun k => w.heap.size ≤ k) (.slice A' (msgB m).length c') (msgB m)))
/-- What Encode tells. -/
def EncRec (m : Rec) (w : World) (e' : Ending) (w' : World) : Prop :=
  Chg (fun _ => False) w w' ∧ ((recR m = false ∧ e' = .returned (.tuple #[.slice none 0 0, .int .i64 10])) ∨ (recR m = true ∧ 65536 < (recB m).length ∧ e' = .returned (.tuple #[.slice none 0 0, .int .i64 12])) ∨
    (recR m = true ∧ (recB m).length ≤ 65536 ∧ ∃ A' c', e' = .returned (.tuple #[.slice A' (recB m).length c', .int .i64 0]) ∧ Byt w' (fun k => w.heap.size ≤ k) (.slice A' (recB m).length c') (recB m)))
set_option maxHeartbeats 4000000 in
set_option maxRecDepth 100000 in
theorem encoderec_any {w : World} {R : Nat → Prop} {m : Rec} {A : Option Addr} {n c : Nat} (hl : Ty.At entryK w R A n c m.log) :
    Calls Try.prog 36 #[.agg #[.int .i64 m.kind, .int .i64 m.a, .int .i64 m.b, .slice A n c]] w (EncRec m w) := by
  obtain ⟨g, hg⟩ : ∃ g, g = w.heap.size + 1 := ⟨_, rfl⟩
  obtain ⟨w0, hw0⟩ : ∃ w0, w0 = (w.alloc (.cells #[.int .i64 m.kind, .int .i64 m.a, .int .i64 m.b, .slice A n c] 62)).alloc (.cells #[.slice none 0 0, .int .i64 0, .bool true, .bool false] 107) := ⟨_, rfl⟩
  have C0 := hid (show Chg (fun _ => False) w w0 by rw [hw0]; exact ((Chg.refl _ w).alloc _).alloc _)
  have B0 := hid (show w0.heap[w.heap.size]? = some (.cells #[.int .i64 m.kind, .int .i64 m.a, .int .i64 m.b, .slice A n c] 62 (0, 0)) by rw [hw0]; exact blk_alloc (blk_new w _) _)
  have G0 : w0.heap[g]? = some (.cells #[.slice none 0 0, .int .i64 0, .bool true, .bool false] 107 (0, 0)) := by
    rw [hw0, hg]
    have := blk_new (w.alloc (.cells #[.int .i64 m.kind, .int .i64 m.a, .int .i64 m.b, .slice A n c] 62)) (.cells #[.slice none 0 0, .int .i64 0, .bool true, .bool false] 107)
    simpa using this
  have HW := hid (show Wr w0 (fun k => k = g) g (.slice none 0 0) [] from ⟨rfl, G0, own_nil _ _ _, fun k hk => by simp [Value.ownBlock] at hk⟩)
  have hgw : w.heap.size < g := by omega
  have HL := hid (hl.bound.chg C0.out (fun _ _ h => h))
  have x0 : w0.cell? ⟨w.heap.size, 0, none⟩ = some (.int .i64 m.kind) := (cellAt B0.out 0).trans rfl
  have x1 : w0.cell? ⟨w.heap.size, 1, none⟩ = some (.int .i64 m.a) := (cellAt B0.out 1).trans rfl
  have x2 : w0.cell? ⟨w.heap.size, 2, none⟩ = some (.int .i64 m.b) := (cellAt B0.out 2).trans rfl
  have x3 : w0.cell? ⟨w.heap.size, 3, none⟩ = some (.slice A n c) := (cellAt B0.out 3).trans rfl
  clear hl G0
  go_enter Try.func36, Try.ntmps36
  go_wp2_with fail
  rw [← hw0, ← hg]
  clear hw0
  refine (recright_any (m := m) HL.out).mono ?_
  rintro e' w1 ⟨rfl, h1⟩
  have C1 := hid h1
  have S1 := hid (show w.heap.size ≤ w1.heap.size from Nat.le_trans C0.out.size h1.size)
  clear h1
  clear x0 x1 x2 x3
  cases hr : recR m
  · have HR := hid hr
    clear hr hg
    go_wp2_with fail
    refine written_no.mono ?_
    rintro e' w2 ⟨rfl, rfl⟩
    go_wp2_with fail
    go_ret2
    exact ⟨C0.out.trans C1.out (fun _ h _ => h), .inl ⟨HR.out, rfl⟩⟩
  have HR := hid hr
  have HOK := hid (recR_ok hr)
  clear hr hg
  go_wp2_with fail
  refine (record_w (HW.out.chg C1.out (fun _ _ h => h)) (C1.out.blk B0.out (fun h => h)) (by omega) (HL.out.chg C1.out (fun _ _ h => h)) (fun k hk e => by have := hk.2; omega) HOK.out (by simp)).mono ?_
  rintro e' w2 ⟨rfl, v2, h2, hc2⟩
  have H2 := hid h2
  have C2 := hid hc2
  have hlen := recB_len HOK.out
  obtain ⟨A2, c2, hv2⟩ := h2.form
  rw [List.nil_append] at hv2
  subst hv2
  have d0 := h2.cells.1
  clear h2 hc2
  go_wp2_with fail
  refine (written_yes d0 (by omega)).mono ?_
  rintro e' w3 ⟨rfl, rfl⟩
  have CF := hid (show Chg (fun _ => False) w w2 from (C0.out.trans C1.out (fun _ h _ => h)).trans C2.out (fun k hk hl => by have q : k = g := hk; omega))
  by_cases hb : (recB m).length ≤ 65536
  · rw [if_pos hb]
    have HB := hid hb
    clear hb d0
    go_wp2_with fail
    go_ret2
    refine ⟨CF.out, .inr (.inr ⟨HR.out, HB.out, A2, c2, rfl, H2.out.row, fun k hk => ?_⟩)⟩
    have s1 := S1.out
    rcases H2.out.rowS k hk with q | q
    · have q' : k = g := q
      show w.heap.size ≤ k
      omega
    · exact Nat.le_trans s1 q
  · rw [if_neg hb]
    have HB := hid hb
    clear hb d0
    go_wp2_with fail
    go_ret2
    exact ⟨CF.out, .inr (.inl ⟨HR.out, Nat.lt_of_not_le HB.out, rfl⟩)⟩
end Go.Proofs.Ytfpjickdkkhndaa.Pa


/- The contracts of Decode and DecodeRecord. -/

namespace Go.Proofs.Ytfpjickdkkhndaa.Pa

set_option linter.unusedVariables false

set_option linter.unusedSimpArgs false

open Go.RowKit Go.Proofs.Ytfpjickdkkhndaa.C

attribute [local go_sem] max2_int min2_int max_two min_two

def parseRec (b : List UInt8) : Option Rec := (rdRec b).bind fun q => if q.2 = [] ∧ b.length ≤ 65536 ∧ recR q.1 = true then some q.1 else none
/-- What Decode tells. -/
def DecRec (w : World) (b : List UInt8) (e' : Ending) (w' : World) : Prop :=
  Chg (fun _ => False) w w' ∧ ((parseRec b = none ∧ e' = .returned (.tuple #[.agg #[.int .i64 0, .int .i64 0, .int .i64 0, .slice none 0 0], .int .i64 10])) ∨
    (∃ (m : Rec) (A' : Option Addr) (n' c' : Nat), parseRec b = some m ∧ e' = .returned (.tuple #[.agg #[.int .i64 m.kind, .int .i64 m.a, .int .i64 m.b, .slice A' n' c'], .int .i64 0]) ∧ (∀ u ∈ m.nums, (Lit.int .i64 u).wf = true) ∧ Ty.At entryK w' (fun k => w.heap.size ≤ k) A' n' c' m.log))
theorem parseRec_big {b : List UInt8} (h : ¬ b.length ≤ 65536) : parseRec b = none := by
  unfold parseRec
  cases rdRec b with
  | none => rfl
  | some q => rw [Option.bind_some, if_neg (fun hq => h hq.2.1)]
theorem parseRec_bad {b : List UInt8} {m : Rec} {at' : Nat} (h : (left b 0 false).bind rdRec = (left b at' true).map fun r => (m, r)) : parseRec b = none := by
  rw [left_some, List.drop_zero, Option.bind_some, left_none, Option.map_none] at h
  unfold parseRec
  rw [h]
  rfl
theorem parseRec_good {b : List UInt8} {m : Rec} {at' : Nat} (h : (left b 0 false).bind rdRec = (left b at' false).map fun r => (m, r)) : parseRec b = if b.drop at' = [] ∧ b.length ≤ 65536 ∧ recR m = true then some m else none := by
  rw [left_some, List.drop_zero, Option.bind_some, left_some, Option.map_some] at h
  unfold parseRec
  rw [h]
  rfl
set_option maxHeartbeats 4000000 in
set_option maxRecDepth 100000 in
theorem decoderec_any {w : World} {R : Nat → Prop} {A : Option Addr} {n c : Nat} {b : List UInt8} (h : Ty.At Ty.u8 w R A n c b) (hn : n ≤ 1000000) :
    Calls Try.prog 31 #[.slice A n c] w (DecRec w b) := by
  have HN := hid h.1
  obtain ⟨g, hg⟩ : ∃ g, g = w.heap.size + 1 := ⟨_, rfl⟩
  obtain ⟨p, hp⟩ : ∃ p, p = w.heap.size + 1 + 1 := ⟨_, rfl⟩
  obtain ⟨w0, hw0⟩ : ∃ w0, w0 = ((w.alloc (.cells #[.int .i64 0, .int .i64 0, .int .i64 0, .slice none 0 0] 62)).alloc (.cells #[.slice A n c, .int .i64 0, .bool false, .bool false] 107)).alloc (.cells #[.int .i64 0, .int .i64 0, .int .i64 0, .slice none 0 0] 62) := ⟨_, rfl⟩
  have C0 := hid (show Chg (fun _ => False) w w0 by rw [hw0]; exact (((Chg.refl _ w).alloc _).alloc _).alloc _)
  have B0 := hid (show w0.heap[w.heap.size]? = some (.cells #[.int .i64 0, .int .i64 0, .int .i64 0, .slice none 0 0] 62 (0, 0)) by rw [hw0]; exact blk_alloc (blk_alloc (blk_new w _) _) _)
  have G0 : w0.heap[g]? = some (.cells #[.slice A n c, .int .i64 0, .bool false, .bool false] 107 (0, 0)) := by
    rw [hw0, hg]
    refine blk_alloc ?_ _
    have := blk_new (w.alloc (.cells #[.int .i64 0, .int .i64 0, .int .i64 0, .slice none 0 0] 62)) (.cells #[.slice A n c, .int .i64 0, .bool false, .bool false] 107)
    simpa using this
  have P0 := hid (show w0.heap[p]? = some (.cells #[.int .i64 0, .int .i64 0, .int .i64 0, .slice none 0 0] 62 (0, 0)) by
    rw [hw0, hp]
    have := blk_new ((w.alloc (.cells #[.int .i64 0, .int .i64 0, .int .i64 0, .slice none 0 0] 62)).alloc (.cells #[.slice A n c, .int .i64 0, .bool false, .bool false] 107)) (.cells #[.int .i64 0, .int .i64 0, .int .i64 0, .slice none 0 0] 62)
    simpa using this)
  have H0 := hid (show Rd w0 w.heap.size g A n c b 0 false from ⟨by omega, G0, (h.bound.mono (S' := fun k => k < w.heap.size) (fun k hk => hk.2)).chg C0.out (fun _ _ h => h), Nat.zero_le _⟩)
  have hgw : w.heap.size < g := by omega
  have hpg : p ≠ g := by omega
  have hwp : w.heap.size < p := by omega
  have HG := hid hg
  have HP := hid hp
  have HLEN := hid (show b.length = n from h.1.symm)
  clear h G0
  by_cases hb : n ≤ 65536
  case neg =>
    have hb2 : ¬ (n : Int) ≤ 65536 := by omega
    have PN := hid (parseRec_big (b := b) (by rw [HLEN.out]; exact hb))
    have hn0 : n ≠ 0 := by omega
    clear hb
    go_enter Try.func31, Try.ntmps31
    go_wp2_with fail
    rw [← hg]
    rw [← hw0]
    clear hw0 hg hp
    refine (whole_any H0.out (by omega)).mono ?_
    rintro e' w2 ⟨rfl, q, hw2⟩
    rw [show (!false && decide (0 = n) && decide (n ≤ 65536)) = false by rw [decide_eq_false (fun e => hn0 e.symm)]; rfl]
    have C2 := hid (show Chg (fun _ => False) w w2 by rw [hw2]; exact C0.out.drewN q)
    have BT := hid (show w2.heap[w.heap.size]? = some (.cells #[.int .i64 0, .int .i64 0, .int .i64 0, .slice none 0 0] 62 (0, 0)) by rw [hw2]; exact B0.out)
    clear hw2
    have y0 : w2.cell? ⟨w.heap.size, 0, none⟩ = some (.int .i64 0) := (cellAt BT.out 0).trans rfl
    have f0 : w2.frozen? ⟨w.heap.size, 0, none⟩ = false := freeAt BT.out 0
    have y1 : w2.cell? ⟨w.heap.size, 1, none⟩ = some (.int .i64 0) := (cellAt BT.out 1).trans rfl
    have f1 : w2.frozen? ⟨w.heap.size, 1, none⟩ = false := freeAt BT.out 1
    have y2 : w2.cell? ⟨w.heap.size, 2, none⟩ = some (.int .i64 0) := (cellAt BT.out 2).trans rfl
    have f2 : w2.frozen? ⟨w.heap.size, 2, none⟩ = false := freeAt BT.out 2
    have y3 : w2.cell? ⟨w.heap.size, 3, none⟩ = some (.slice none 0 0) := (cellAt BT.out 3).trans rfl
    have f3 : w2.frozen? ⟨w.heap.size, 3, none⟩ = false := freeAt BT.out 3
    go_wp2_with fail
    obtain ⟨PB, PC⟩ := put_blk (#[.int .i64 0, .int .i64 0, .int .i64 0, .slice none 0 0] : Array Value).toList w2 _ BT.out rfl
    generalize hW : ((((w2.setCell ⟨w.heap.size, 0, none⟩ (.int .i64 0)).setCell ⟨w.heap.size, 1, none⟩ (.int .i64 0)).setCell ⟨w.heap.size, 2, none⟩ (.int .i64 0)).setCell ⟨w.heap.size, 3, none⟩ (.slice none 0 0)) = W
    have PB' : W.heap[w.heap.size]? = some (.cells #[.int .i64 0, .int .i64 0, .int .i64 0, .slice none 0 0] 62 (0, 0)) := by rw [← hW]; exact PB
    have PC' : Chg (fun k => k = w.heap.size) w2 W := by rw [← hW]; exact PC
    clear PB PC hW y0 f0 y1 f1 y2 f2 y3 f3
    have z0 : W.cell? ⟨w.heap.size, 0, none⟩ = some (.int .i64 0) := by rw [cellAt PB']; rfl
    have z1 : W.cell? ⟨w.heap.size, 1, none⟩ = some (.int .i64 0) := by rw [cellAt PB']; rfl
    have z2 : W.cell? ⟨w.heap.size, 2, none⟩ = some (.int .i64 0) := by rw [cellAt PB']; rfl
    have z3 : W.cell? ⟨w.heap.size, 3, none⟩ = some (.slice none 0 0) := by rw [cellAt PB']; rfl
    refine bodyPost_ret (v := .tuple #[.agg #[.int .i64 0, .int .i64 0, .int .i64 0, .slice none 0 0], .int .i64 10]) (by simp [results, Try.results31, go_sem, z0, z1, z2, z3]) rfl ?_
    exact ⟨C2.out.trans PC' (fun k hk hl => by subst hk; exact absurd hl (Nat.lt_irrefl _)), .inl ⟨PN.out, rfl⟩⟩
  have hb2 : (n : Int) ≤ 65536 := by omega
  have HB := hid hb
  clear hb
  go_enter Try.func31, Try.ntmps31
  go_wp2_with fail
  rw [← hp, ← hg]
  rw [← hw0]
  clear hw0 hg hp
  refine (record_r (vs := [0, 0, 0]) (tp := 62) H0.out P0.out rfl (by omega) hpg (by intro u hu; simp at hu; subst hu; decide) hn).mono ?_
  rintro e' w1 ⟨rfl, m, A', n', c', hwf, hlog, hblk, hchg, ⟨at', bad', hrd, heq⟩, hll⟩
  have HWF := hid hwf
  have HLOG := hid hlog.bound
  have HBK := hid hblk
  have C1 := hid hchg
  have HRD := hid hrd
  have HEQ := hid heq
  clear hwf hlog hblk hchg hrd heq
  go_wp2_with fail
  refine (whole_any HRD.out (by omega)).mono ?_
  rintro e' w2 ⟨rfl, q, hw2⟩
  have CQ := hid (show Chg (fun _ => False) w1 w2 by rw [hw2]; exact (Chg.refl _ w1).drewN q)
  have CW := hid (show Chg (fun _ => False) w w2 from (C0.out.trans C1.out (fun k hk hl => by rcases hk with hk | hk <;> omega)).trans CQ.out (fun _ h _ => h))
  have BT := hid (CQ.out.blk (C1.out.blk B0.out (fun e => by rcases e with e | e <;> omega)) (fun h => h))
  clear hw2
  by_cases hgo : bad' = false ∧ at' = n
  case neg =>
    have PN := hid (show parseRec b = none from by
      cases bad' with
      | true => exact parseRec_bad HEQ.out
      | false =>
        rw [parseRec_good HEQ.out, if_neg]
        rintro ⟨h1, _⟩
        have h2 := congrArg List.length h1
        have h3 := HRD.out.le
        rw [List.length_drop, HLEN.out] at h2
        have e0 : ([] : List UInt8).length = 0 := rfl
        exact hgo ⟨rfl, by omega⟩)
    rw [show (!bad' && decide (at' = n) && decide (n ≤ 65536)) = false by
      cases bad' with
      | true => rfl
      | false => rw [decide_eq_false (fun e => hgo ⟨rfl, e⟩)]; rfl]
    have C2 := CW
    clear hgo
    have y0 : w2.cell? ⟨w.heap.size, 0, none⟩ = some (.int .i64 0) := (cellAt BT.out 0).trans rfl
    have f0 : w2.frozen? ⟨w.heap.size, 0, none⟩ = false := freeAt BT.out 0
    have y1 : w2.cell? ⟨w.heap.size, 1, none⟩ = some (.int .i64 0) := (cellAt BT.out 1).trans rfl
    have f1 : w2.frozen? ⟨w.heap.size, 1, none⟩ = false := freeAt BT.out 1
    have y2 : w2.cell? ⟨w.heap.size, 2, none⟩ = some (.int .i64 0) := (cellAt BT.out 2).trans rfl
    have f2 : w2.frozen? ⟨w.heap.size, 2, none⟩ = false := freeAt BT.out 2
    have y3 : w2.cell? ⟨w.heap.size, 3, none⟩ = some (.slice none 0 0) := (cellAt BT.out 3).trans rfl
    have f3 : w2.frozen? ⟨w.heap.size, 3, none⟩ = false := freeAt BT.out 3
    go_wp2_with fail
    obtain ⟨PB, PC⟩ := put_blk (#[.int .i64 0, .int .i64 0, .int .i64 0, .slice none 0 0] : Array Value).toList w2 _ BT.out rfl
    generalize hW : ((((w2.setCell ⟨w.heap.size, 0, none⟩ (.int .i64 0)).setCell ⟨w.heap.size, 1, none⟩ (.int .i64 0)).setCell ⟨w.heap.size, 2, none⟩ (.int .i64 0)).setCell ⟨w.heap.size, 3, none⟩ (.slice none 0 0)) = W
    have PB' : W.heap[w.heap.size]? = some (.cells #[.int .i64 0, .int .i64 0, .int .i64 0, .slice none 0 0] 62 (0, 0)) := by rw [← hW]; exact PB
    have PC' : Chg (fun k => k = w.heap.size) w2 W := by rw [← hW]; exact PC
    clear PB PC hW y0 f0 y1 f1 y2 f2 y3 f3
    have z0 : W.cell? ⟨w.heap.size, 0, none⟩ = some (.int .i64 0) := by rw [cellAt PB']; rfl
    have z1 : W.cell? ⟨w.heap.size, 1, none⟩ = some (.int .i64 0) := by rw [cellAt PB']; rfl
    have z2 : W.cell? ⟨w.heap.size, 2, none⟩ = some (.int .i64 0) := by rw [cellAt PB']; rfl
    have z3 : W.cell? ⟨w.heap.size, 3, none⟩ = some (.slice none 0 0) := by rw [cellAt PB']; rfl
    refine bodyPost_ret (v := .tuple #[.agg #[.int .i64 0, .int .i64 0, .int .i64 0, .slice none 0 0], .int .i64 10]) (by simp [results, Try.results31, go_sem, z0, z1, z2, z3]) rfl ?_
    exact ⟨C2.out.trans PC' (fun k hk hl => by subst hk; exact absurd hl (Nat.lt_irrefl _)), .inl ⟨PN.out, rfl⟩⟩
  obtain ⟨rfl, rfl⟩ := hgo
  rw [decide_eq_true (show at' ≤ 65536 from HB.out), show (!false && decide (at' = at') && true) = true by simp]
  have PG := hid (parseRec_good HEQ.out)
  have x0 : w2.cell? ⟨p, 0, none⟩ = some (.int .i64 m.kind) := (cellAt (CQ.out.blk HBK.out (fun h => h)) 0).trans rfl
  have x1 : w2.cell? ⟨p, 1, none⟩ = some (.int .i64 m.a) := (cellAt (CQ.out.blk HBK.out (fun h => h)) 1).trans rfl
  have x2 : w2.cell? ⟨p, 2, none⟩ = some (.int .i64 m.b) := (cellAt (CQ.out.blk HBK.out (fun h => h)) 2).trans rfl
  have x3 : w2.cell? ⟨p, 3, none⟩ = some (.slice A' n' c') := (cellAt (CQ.out.blk HBK.out (fun h => h)) 3).trans rfl
  go_wp2_with fail
  refine (recright_any (m := m) (HLOG.out.chg CQ.out (fun _ _ h => h))).mono ?_
  rintro e' w3 ⟨rfl, h3⟩
  have CR := hid h3
  have CW3 := hid (CW.out.trans h3 (fun _ h _ => h))
  have BT3 := hid (h3.blk BT.out (fun h => h))
  have BP3 := hid (h3.blk (CQ.out.blk HBK.out (fun h => h)) (fun h => h))
  clear h3 x0 x1 x2 x3
  cases hr : recR m
  · have PN := hid (show parseRec b = none from by rw [PG.out, if_neg]; rintro ⟨_, _, h⟩; rw [hr] at h; cases h)
    clear hr
    have BT := BT3
    have C2 := CW3
    have y0 : w3.cell? ⟨w.heap.size, 0, none⟩ = some (.int .i64 0) := (cellAt BT3.out 0).trans rfl
    have f0 : w3.frozen? ⟨w.heap.size, 0, none⟩ = false := freeAt BT3.out 0
    have y1 : w3.cell? ⟨w.heap.size, 1, none⟩ = some (.int .i64 0) := (cellAt BT3.out 1).trans rfl
    have f1 : w3.frozen? ⟨w.heap.size, 1, none⟩ = false := freeAt BT3.out 1
    have y2 : w3.cell? ⟨w.heap.size, 2, none⟩ = some (.int .i64 0) := (cellAt BT3.out 2).trans rfl
    have f2 : w3.frozen? ⟨w.heap.size, 2, none⟩ = false := freeAt BT3.out 2
    have y3 : w3.cell? ⟨w.heap.size, 3, none⟩ = some (.slice none 0 0) := (cellAt BT3.out 3).trans rfl
    have f3 : w3.frozen? ⟨w.heap.size, 3, none⟩ = false := freeAt BT3.out 3
    go_wp2_with fail
    obtain ⟨PB, PC⟩ := put_blk (#[.int .i64 0, .int .i64 0, .int .i64 0, .slice none 0 0] : Array Value).toList w3 _ BT.out rfl
    generalize hW : ((((w3.setCell ⟨w.heap.size, 0, none⟩ (.int .i64 0)).setCell ⟨w.heap.size, 1, none⟩ (.int .i64 0)).setCell ⟨w.heap.size, 2, none⟩ (.int .i64 0)).setCell ⟨w.heap.size, 3, none⟩ (.slice none 0 0)) = W
    have PB' : W.heap[w.heap.size]? = some (.cells #[.int .i64 0, .int .i64 0, .int .i64 0, .slice none 0 0] 62 (0, 0)) := by rw [← hW]; exact PB
    have PC' : Chg (fun k => k = w.heap.size) w3 W := by rw [← hW]; exact PC
    clear PB PC hW y0 f0 y1 f1 y2 f2 y3 f3
    have z0 : W.cell? ⟨w.heap.size, 0, none⟩ = some (.int .i64 0) := by rw [cellAt PB']; rfl
    have z1 : W.cell? ⟨w.heap.size, 1, none⟩ = some (.int .i64 0) := by rw [cellAt PB']; rfl
    have z2 : W.cell? ⟨w.heap.size, 2, none⟩ = some (.int .i64 0) := by rw [cellAt PB']; rfl
    have z3 : W.cell? ⟨w.heap.size, 3, none⟩ = some (.slice none 0 0) := by rw [cellAt PB']; rfl
    refine bodyPost_ret (v := .tuple #[.agg #[.int .i64 0, .int .i64 0, .int .i64 0, .slice none 0 0], .int .i64 10]) (by simp [results, Try.results31, go_sem, z0, z1, z2, z3]) rfl ?_
    exact ⟨C2.out.trans PC' (fun k hk hl => by subst hk; exact absurd hl (Nat.lt_irrefl _)), .inl ⟨PN.out, rfl⟩⟩
  have PY := hid (show parseRec b = some m from by rw [PG.out, if_pos ⟨by rw [List.drop_eq_nil_of_le (by rw [HLEN.out]; exact Nat.le_refl _)], by rw [HLEN.out]; exact HB.out, hr⟩])
  clear hr
  have y0 : w3.cell? ⟨w.heap.size, 0, none⟩ = some (.int .i64 0) := (cellAt BT3.out 0).trans rfl
  have f0 : w3.frozen? ⟨w.heap.size, 0, none⟩ = false := freeAt BT3.out 0
  have y1 : w3.cell? ⟨w.heap.size, 1, none⟩ = some (.int .i64 0) := (cellAt BT3.out 1).trans rfl
  have f1 : w3.frozen? ⟨w.heap.size, 1, none⟩ = false := freeAt BT3.out 1
  have y2 : w3.cell? ⟨w.heap.size, 2, none⟩ = some (.int .i64 0) := (cellAt BT3.out 2).trans rfl
  have f2 : w3.frozen? ⟨w.heap.size, 2, none⟩ = false := freeAt BT3.out 2
  have y3 : w3.cell? ⟨w.heap.size, 3, none⟩ = some (.slice none 0 0) := (cellAt BT3.out 3).trans rfl
  have f3 : w3.frozen? ⟨w.heap.size, 3, none⟩ = false := freeAt BT3.out 3
  have x0 : w3.cell? ⟨p, 0, none⟩ = some (.int .i64 m.kind) := (cellAt BP3.out 0).trans rfl
  have x1 : w3.cell? ⟨p, 1, none⟩ = some (.int .i64 m.a) := (cellAt BP3.out 1).trans rfl
  have x2 : w3.cell? ⟨p, 2, none⟩ = some (.int .i64 m.b) := (cellAt BP3.out 2).trans rfl
  have x3 : w3.cell? ⟨p, 3, none⟩ = some (.slice A' n' c') := (cellAt BP3.out 3).trans rfl
  go_wp2_with fail
  obtain ⟨PB, PC⟩ := put_blk (recCells m A' n' c') w3 _ BT3.out rfl
  generalize hW : ((((w3.setCell ⟨w.heap.size, 0, none⟩ (.int .i64 m.kind)).setCell ⟨w.heap.size, 1, none⟩ (.int .i64 m.a)).setCell ⟨w.heap.size, 2, none⟩ (.int .i64 m.b)).setCell ⟨w.heap.size, 3, none⟩ (.slice A' n' c')) = W
  have PB' : W.heap[w.heap.size]? = some (.cells (recCells m A' n' c').toArray 62 (0, 0)) := by rw [← hW]; exact PB
  have PC' : Chg (fun k => k = w.heap.size) w3 W := by rw [← hW]; exact PC
  clear PB PC hW
  have z0 : W.cell? ⟨w.heap.size, 0, none⟩ = some (.int .i64 m.kind) := by rw [cellAt PB']; rfl
  have z1 : W.cell? ⟨w.heap.size, 1, none⟩ = some (.int .i64 m.a) := by rw [cellAt PB']; rfl
  have z2 : W.cell? ⟨w.heap.size, 2, none⟩ = some (.int .i64 m.b) := by rw [cellAt PB']; rfl
  have z3 : W.cell? ⟨w.heap.size, 3, none⟩ = some (.slice A' n' c') := by rw [cellAt PB']; rfl
  refine bodyPost_ret (v := .tuple #[.agg #[.int .i64 m.kind, .int .i64 m.a, .int .i64 m.b, .slice A' n' c'], .int .i64 0]) (by simp [results, Try.results31, go_sem, z0, z1, z2, z3]) rfl ?_
  have s0 := C0.out.size
  have sl := lt_of_blk B0.out
  exact ⟨CW3.out.trans PC' (fun k hk hl => by subst hk; exact absurd hl (Nat.lt_irrefl _)), .inr ⟨m, A', n', c', PY.out, rfl, HWF.out, ((((HLOG.out.chg CQ.out (fun _ _ h => h)).chg CR.out (fun _ _ h => h)).chg PC' (fun k hk e => by have q1 : w0.heap.size ≤ k := hk.1; omega)).mono (fun k hk => Nat.le_trans s0 hk.1))⟩⟩
end Go.Proofs.Ytfpjickdkkhndaa.Pa


/- The contracts of Decode and DecodeRecord. -/

namespace Go.Proofs.Ytfpjickdkkhndaa.Pa

set_option linter.unusedVariables false

set_option linter.unusedSimpArgs false

open Go.RowKit Go.Proofs.Ytfpjickdkkhndaa.C

attribute [local go_sem] max2_int min2_int max_two min_two

def parseMsg (b : List UInt8) : Option Msg := (rdMsg b).bind fun q => if q.2 = [] ∧ b.length ≤ 65536 ∧ msgR q.1 = true then some q.1 else none
/-- What Decode tells. -/
def DecMsg (w : World) (b : List UInt8) (e' : Ending) (w' : World) : Prop :=
  Chg (fun _ => False) w w' ∧ ((parseMsg b = none ∧ e' = .returned (.tuple #[.agg #[.int .i64 0, .int .i64 0, .int .i64 0, .int .i64 0, .int .i64 0, .int .i64 0, .int .i64 0, .slice none 0 0], .int .i64 10])) ∨
    (∃ (m : Msg) (A' : Option Addr) (n' c' : Nat), parseMsg b = some m ∧ e' = .returned (.tuple #[.agg #[.int .i64 m.kind, .int .i64 m.view, .int .i64 m.src, .int .i64 m.dst, .int .i64 m.op, .int .i64 m.commit, .int .i64 m.normal, .slice A' n' c'], .int .i64 0]) ∧ (∀ u ∈ m.nums, (Lit.int .i64 u).wf = true) ∧ Ty.At entryK w' (fun k => w.heap.size ≤ k) A' n' c' m.log))
theorem parseMsg_big {b : List UInt8} (h : ¬ b.length ≤ 65536) : parseMsg b = none := by
  unfold parseMsg
  cases rdMsg b with
  | none => rfl
  | some q => rw [Option.bind_some, if_neg (fun hq => h hq.2.1)]
theorem parseMsg_bad {b : List UInt8} {m : Msg} {at' : Nat} (h : (left b 0 false).bind rdMsg = (left b at' true).map fun r => (m, r)) : parseMsg b = none := by
  rw [left_some, List.drop_zero, Option.bind_some, left_none, Option.map_none] at h
  unfold parseMsg
  rw [h]
  rfl
theorem parseMsg_good {b : List UInt8} {m : Msg} {at' : Nat} (h : (left b 0 false).bind rdMsg = (left b at' false).map fun r => (m, r)) : parseMsg b = if b.drop at' = [] ∧ b.length ≤ 65536 ∧ msgR m = true then some m else none := by
  rw [left_some, List.drop_zero, Option.bind_some, left_some, Option.map_some] at h
  unfold parseMsg
  rw [h]
  rfl
end Go.Proofs.Ytfpjickdkkhndaa.Pa


/- What is read of bytes that were written, and what is written of things that were read: plain data. -/

namespace Go.Proofs.Ytfpjickdkkhndaa.Pa

set_option linter.unusedVariables false

set_option linter.unusedSimpArgs false

open Go.Proofs.Ytfpjickdkkhndaa.C

/-- A reader and the bytes that it reads: what it takes is just the thing's bytes, at least so many. -/
structure Reads {α : Type} (L : Nat) (rd : List UInt8 → Option (α × List UInt8)) (wr : α → List UInt8) : Prop where
  back : ∀ {s x s'}, rd s = some (x, s') → s = wr x ++ s'
  least : ∀ {s x s'}, rd s = some (x, s') → L ≤ (wr x).length

theorem rdNum_back {s : List UInt8} {n : Int} {s' : List UInt8} (h : rdNum s = some (n, s')) : s = num n ++ s' := by
  unfold rdNum at h
  split at h
  · cases h
  · rename_i hl
    injection h with h
    injection h with h1 h2
    have h6 : (s.take 6).length = 6 := by rw [List.length_take]; omega
    have hv := val_lt h6
    have e : num n = s.take 6 := by
      unfold num
      rw [← h1, show ((val (s.take 6) : Int) - 1 + 1) = (val (s.take 6) : Int) by omega, Int.emod_eq_of_lt (by omega) (by omega), Int.toNat_natCast]
      exact six_val h6
    rw [e, ← h2, List.take_append_drop]
theorem reads_num : Reads 6 rdNum num := ⟨fun h => rdNum_back h, fun _ => Nat.le_refl _⟩
theorem rdList_back {α : Type} {L : Nat} {rd : List UInt8 → Option (α × List UInt8)} {wr : α → List UInt8} (h : Reads L rd wr) : ∀ {k : Nat} {s : List UInt8} {l : List α} {s' : List UInt8}, rdList rd k s = some (l, s') → s = l.flatMap wr ++ s' ∧ l.length = k ∧ L * k ≤ (l.flatMap wr).length
  | 0, s, l, s', hk => by
    injection hk with hk
    injection hk with h1 h2
    subst h1 h2
    exact ⟨rfl, rfl, by simp⟩
  | k + 1, s, l, s', hk => by
    rw [rdList_succ] at hk
    cases hr : rd s with
    | none => rw [hr] at hk; cases hk
    | some q =>
      obtain ⟨x, t⟩ := q
      rw [hr, Option.bind_some] at hk
      cases hr2 : rdList rd k t with
      | none => simp only [hr2] at hk; cases hk
      | some q2 =>
        obtain ⟨l2, t2⟩ := q2
        simp only [hr2, Option.map_some] at hk
        injection hk with hk
        injection hk with h1 h2
        subst h1 h2
        obtain ⟨i1, i2, i3⟩ := rdList_back h hr2
        have b1 := h.back hr
        have b2 := h.least hr
        refine ⟨by rw [b1, i1, List.flatMap_cons, List.append_assoc], by rw [List.length_cons, i2], ?_⟩
        rw [List.flatMap_cons, List.length_append, Nat.mul_add]
        omega
theorem rdCountL_back {L : Nat} {s : List UInt8} {q : Nat} {s' : List UInt8} (h : rdCountL L s = some (q, s')) : s = num q ++ s' := by
  unfold rdCountL at h
  cases hr : rdNum s with
  | none => rw [hr] at h; cases h
  | some r =>
    obtain ⟨n, t⟩ := r
    rw [hr, Option.bind_some] at h
    split at h
    · cases h
    · rename_i hc
      injection h with h
      injection h with h1 h2
      subst h1 h2
      rw [rdNum_back hr, Int.toNat_of_nonneg (by omega)]
theorem reads_seq {α : Type} {L : Nat} {rd : List UInt8 → Option (α × List UInt8)} {wr : α → List UInt8} (h : Reads L rd wr) (K : Nat) : Reads 6 (rdSeq K rd) (fun l => num (l.length : Nat) ++ l.flatMap wr) := by
  have key : ∀ {s : List UInt8} {l : List α} {s' : List UInt8}, rdSeq K rd s = some (l, s') → s = num (l.length : Nat) ++ l.flatMap wr ++ s' := by
    intro s l s' hs
    unfold rdSeq at hs
    cases hc : rdCountL K s with
    | none => rw [hc] at hs; cases hs
    | some r =>
      obtain ⟨q, t⟩ := r
      rw [hc, Option.bind_some] at hs
      obtain ⟨i1, i2, _⟩ := rdList_back h hs
      have e := rdCountL_back hc
      simp only at i1 i2
      rw [e, ← i2, List.append_assoc, ← i1]
  exact ⟨key, fun _ => by rw [List.length_append, num_len]; omega⟩
theorem seq_least {α : Type} {L : Nat} {rd : List UInt8 → Option (α × List UInt8)} {wr : α → List UInt8} (h : Reads L rd wr) (hL : 0 < L) (s : List UInt8) : rdSeq L rd s = rdSeq 1 rd s := by
  unfold rdSeq rdCountL
  cases hr : rdNum s with
  | none => rfl
  | some r =>
    obtain ⟨n, t⟩ := r
    simp only [Option.bind_some, Nat.div_one]
    by_cases h0 : n < 0
    · rw [if_pos (.inl h0), if_pos (.inl h0)]
    · by_cases h1 : (t.length : Int) < n
      · rw [if_pos (show n < 0 ∨ ((t.length / L : Nat) : Int) < n from .inr (by have := Nat.div_le_self t.length L; omega)), if_pos (show n < 0 ∨ (t.length : Int) < n from .inr h1)]
      · rw [if_neg (show ¬ (n < 0 ∨ (t.length : Int) < n) by omega), Option.bind_some]
        by_cases h2 : ((t.length / L : Nat) : Int) < n
        · rw [if_pos (.inr h2), Option.bind_none]
          cases hl : rdList rd n.toNat t with
          | none => rfl
          | some q =>
            exfalso
            obtain ⟨l, t'⟩ := q
            obtain ⟨i1, i2, i3⟩ := rdList_back h hl
            have h3 : L * n.toNat ≤ t.length := by
              have := congrArg List.length i1
              rw [List.length_append] at this
              omega
            have h4 : n.toNat ≤ t.length / L := (Nat.le_div_iff_mul_le hL).2 (by rw [Nat.mul_comm]; exact h3)
            omega
        · rw [if_neg (show ¬ (n < 0 ∨ ((t.length / L : Nat) : Int) < n) by omega), Option.bind_some]
theorem reads_then {α β γ : Type} {L K : Nat} {rd1 : List UInt8 → Option (α × List UInt8)} {rd2 : List UInt8 → Option (β × List UInt8)} {w1 : α → List UInt8} {w2 : β → List UInt8} (h1 : Reads L rd1 w1) (h2 : Reads K rd2 w2) {f : α → β → γ} {wr : γ → List UInt8}
    (hf : ∀ {s x s' y s''}, rd1 s = some (x, s') → rd2 s' = some (y, s'') → wr (f x y) = w1 x ++ w2 y) : Reads (L + K) (thenRd rd1 rd2 f) wr := by
  have key : ∀ {s z s''}, thenRd rd1 rd2 f s = some (z, s'') → ∃ x s' y, rd1 s = some (x, s') ∧ rd2 s' = some (y, s'') ∧ z = f x y := by
    intro s z s'' h
    unfold thenRd at h
    cases hr : rd1 s with
    | none => rw [hr] at h; cases h
    | some q =>
      obtain ⟨x, s'⟩ := q
      rw [hr, Option.bind_some] at h
      cases hr2 : rd2 s' with
      | none => simp only [hr2] at h; cases h
      | some q2 =>
        obtain ⟨y, t⟩ := q2
        simp only [hr2, Option.map_some] at h
        injection h with h
        injection h with e1 e2
        subst e1 e2
        exact ⟨x, s', y, rfl, hr2, rfl⟩
  refine ⟨fun h => ?_, fun h => ?_⟩
  · obtain ⟨x, s', y, e1, e2, rfl⟩ := key h
    rw [hf e1 e2, List.append_assoc, ← h2.back e2, ← h1.back e1]
  · obtain ⟨x, s', y, e1, e2, rfl⟩ := key h
    rw [hf e1 e2, List.length_append]
    have q1 := h1.least e1
    have q2 := h2.least e2
    omega
theorem reads_nums (k : Nat) : Reads (6 * k) (rdList rdNum k) (fun l => l.flatMap num) := ⟨fun h => (rdList_back reads_num h).1, fun h => (rdList_back reads_num h).2.2⟩
theorem nums_k {k : Nat} {s : List UInt8} {l : List Int} {s' : List UInt8} (h : rdList rdNum k s = some (l, s')) : l.length = k := (rdList_back reads_num h).2.1
theorem reads_text : Reads 6 rdText (fun t => num (t.length : Nat) ++ t) := by
  have key : ∀ {s t s' : List UInt8}, rdText s = some (t, s') → s = num (t.length : Nat) ++ t ++ s' := by
    intro s t s' h
    unfold rdText at h
    cases hc : rdCountL 1 s with
    | none => rw [hc] at h; cases h
    | some r =>
      obtain ⟨q, u⟩ := r
      rw [hc, Option.map_some] at h
      injection h with h
      injection h with h1 h2
      have hq : q ≤ u.length := by
        unfold rdCountL at hc
        cases hr : rdNum s with
        | none => rw [hr] at hc; cases hc
        | some r2 =>
          obtain ⟨n, t2⟩ := r2
          rw [hr, Option.bind_some] at hc
          split at hc
          · cases hc
          · rename_i hcc
            injection hc with hc
            injection hc with e1 e2
            subst e1 e2
            rw [Nat.div_one] at hcc
            omega
      subst h1 h2
      rw [List.length_take, Nat.min_eq_left hq, List.append_assoc, List.take_append_drop]
      exact rdCountL_back hc
  exact ⟨key, fun _ => by rw [List.length_append, num_len]; omega⟩
theorem reads_rule : Reads 30 rdRule ruleB := by
  have := reads_then (L := 24) (K := 6) (reads_nums 4) reads_text (f := mkRule) (wr := ruleB) (by
    intro s x s' y s'' h1 h2
    have hk := nums_k h1
    match x, hk with
    | [a, b, c, d], _ =>
      rw [ruleB_eq]
      show List.flatMap num [a, b, c, d] ++ num (bstr y).size ++ bts (bstr y) = _
      rw [bts_bstr, bstr_size, List.append_assoc])
  exact this
theorem rdEntry_eq : rdEntry = rdEntryR := by
  funext s
  unfold rdEntry rdEntryR thenRd
  simp only [seq_least reads_rule (by omega), seq_least reads_num (by omega)]
theorem reads_entry : Reads 54 rdEntry entryB := by
  have q1 := reads_then (L := 42) (K := 6) (reads_nums 7) (reads_seq reads_rule 30) (f := Prod.mk) (wr := fun p => p.1.flatMap num ++ (num (p.2.length : Nat) ++ p.2.flatMap ruleB)) (fun _ _ => rfl)
  have q1k : ∀ {s p s'}, thenRd (rdList rdNum 7) (rdSeq 30 rdRule) Prod.mk s = some (p, s') → p.1.length = 7 := by
    intro s p s' h
    unfold thenRd at h
    cases hr : rdList rdNum 7 s with
    | none => rw [hr] at h; cases h
    | some q =>
      obtain ⟨x, t⟩ := q
      rw [hr, Option.bind_some] at h
      cases hr2 : rdSeq 30 rdRule t with
      | none => simp only [hr2] at h; cases h
      | some q2 =>
        simp only [hr2, Option.map_some] at h
        injection h with h
        injection h with e1 e2
        subst e1
        exact nums_k hr
  have := reads_then (L := 48) (K := 6) q1 (reads_seq reads_num 6) (f := fun q d => mkEntry q.1 q.2 d) (wr := entryB) (by
    intro s x s' y s'' h1 h2
    have hk := q1k h1
    obtain ⟨l, pu⟩ := x
    match l, hk with
    | [a, b, c, d, e, f, g], _ =>
      rw [entryB_eq]
      simp only [mkEntry, Entry.nums, List.append_assoc])
  exact this
theorem rdMsg_eq : rdMsg = rdMsgR := by
  funext s
  unfold rdMsg rdMsgR thenRd
  simp only [seq_least reads_entry (by omega)]
  rw [rdEntry_eq]
theorem rdRec_eq : rdRec = rdRecR := by
  funext s
  unfold rdRec rdRecR thenRd
  simp only [seq_least reads_entry (by omega)]
  rw [rdEntry_eq]
theorem parseMsg_eq (b : List UInt8) : parseMsg b = parseMsgR b := by unfold parseMsg parseMsgR; rw [rdMsg_eq]
theorem parseRec_eq (b : List UInt8) : parseRec b = parseRecR b := by unfold parseRec parseRecR; rw [rdRec_eq]
theorem reads_msg : Reads 48 rdMsg msgB := by
  have := reads_then (L := 42) (K := 6) (reads_nums 7) (reads_seq reads_entry 54) (f := mkMsg) (wr := msgB) (by
    intro s x s' y s'' h1 h2
    have hk := nums_k h1
    match x, hk with
    | [a, b, c, d, e, f, g], _ => rfl)
  exact this
theorem reads_rec : Reads 24 rdRec recB := by
  have := reads_then (L := 18) (K := 6) (reads_nums 3) (reads_seq reads_entry 54) (f := mkRec) (wr := recB) (by
    intro s x s' y s'' h1 h2
    have hk := nums_k h1
    match x, hk with
    | [a, b, c], _ => rfl)
  exact this

/-! ### What is written is read -/
theorem rdCountL_num {L q : Nat} {b : List UInt8} (hq : q ≤ 1000000000000) (h : q ≤ b.length / L) : rdCountL L (num (q : Int) ++ b) = some (q, b) := by
  unfold rdCountL
  rw [rdNum_num (by omega) (by omega), Option.bind_some, if_neg (by simp only; omega)]
  rfl
theorem nums_fwd {l : List Int} (h : ∀ u ∈ l, NumOk u) (b : List UInt8) : rdList rdNum l.length (l.flatMap num ++ b) = some (l, b) := rdList_all (fun x hx b => rdNum_num (h x hx).1 (by have := (h x hx).2; omega) b) b
theorem flatMap_least {α : Type} {wr : α → List UInt8} {L : Nat} {l : List α} (h : ∀ x ∈ l, L ≤ (wr x).length) : L * l.length ≤ (l.flatMap wr).length := by
  induction l with
  | nil => simp
  | cons x l ih =>
    have h1 := h x (List.mem_cons_self ..)
    have h2 := ih (fun y hy => h y (List.mem_cons_of_mem _ hy))
    rw [List.flatMap_cons, List.length_append, List.length_cons, Nat.mul_add]
    omega
theorem seq_fwd {α : Type} {rd : List UInt8 → Option (α × List UInt8)} {wr : α → List UInt8} {L : Nat} (hL : 0 < L) {l : List α} (h : ∀ x ∈ l, ∀ b, rd (wr x ++ b) = some (x, b)) (hl : ∀ x ∈ l, L ≤ (wr x).length) (hn : l.length ≤ 1000000) (b : List UInt8) : rdSeq L rd (num (l.length : Nat) ++ l.flatMap wr ++ b) = some (l, b) := by
  unfold rdSeq
  rw [List.append_assoc, rdCountL_num (by omega) ((Nat.le_div_iff_mul_le hL).2 (by rw [Nat.mul_comm, List.length_append]; have := flatMap_least hl; omega)), Option.bind_some]
  exact rdList_all h b
theorem rule_fwd {r : Rule} (h : RuleOk r) (b : List UInt8) : rdRule (ruleB r ++ b) = some (r, b) := by
  unfold rdRule thenRd
  rw [ruleB_eq, List.append_assoc, List.append_assoc, show (4 : Nat) = r.nums.length from rfl, nums_fwd h.1, Option.bind_some]
  have ht : rdText (num (r.pat.size : Int) ++ (bts r.pat ++ b)) = some (bts r.pat, b) := by
    unfold rdText
    rw [rdCountL_num (by have := h.2; omega) (by rw [Nat.div_one, List.length_append, bts_length]; omega), Option.map_some, ← bts_length, List.take_left, List.drop_left]
  rw [ht, Option.map_some]
  rfl
theorem ruleB_30 (r : Rule) : 30 ≤ (ruleB r).length := by rw [ruleB_len]; omega
theorem entry_fwd {e : Entry} (h : EntryOk e) (b : List UInt8) : rdEntry (entryB e ++ b) = some (e, b) := by
  have q1 : rdSeq 30 rdRule (num (e.put.length : Nat) ++ e.put.flatMap ruleB ++ (num (e.drop.length : Nat) ++ e.drop.flatMap num ++ b)) = some (e.put, num (e.drop.length : Nat) ++ e.drop.flatMap num ++ b) := seq_fwd (by omega) (fun x hx b => rule_fwd (h.put x hx) b) (fun x _ => ruleB_30 x) (by have := h.putl; omega) _
  have q2 : rdSeq 6 rdNum (num (e.drop.length : Nat) ++ e.drop.flatMap num ++ b) = some (e.drop, b) := seq_fwd (by omega) (fun x hx b => rdNum_num (h.drop x hx).1 (by have := (h.drop x hx).2; omega) b) (fun x _ => by rw [num_len]; omega) (by have := h.dropl; omega) _
  unfold rdEntry thenRd
  rw [entryB_eq, show e.nums.flatMap num ++ num (e.put.length : Nat) ++ e.put.flatMap ruleB ++ num (e.drop.length : Nat) ++ e.drop.flatMap num ++ b = e.nums.flatMap num ++ (num (e.put.length : Nat) ++ e.put.flatMap ruleB ++ (num (e.drop.length : Nat) ++ e.drop.flatMap num ++ b)) by simp only [List.append_assoc], show (7 : Nat) = e.nums.length from rfl, nums_fwd h.nums, Option.bind_some, q1, Option.map_some, Option.bind_some, q2, Option.map_some]
  rfl
theorem entryB_54 (e : Entry) : 54 ≤ (entryB e).length := by
  rw [entryB_eq]
  simp only [List.length_append, num_len]
  have h3 : (e.nums.flatMap num).length = 42 := by rw [flatMap_num_len]; rfl
  omega
theorem log_fwd {l : List Entry} (h : ∀ e ∈ l, EntryOk e) (hl : l.length ≤ 100) (b : List UInt8) : rdSeq 54 rdEntry (logB l ++ b) = some (l, b) := seq_fwd (by omega) (fun x hx b => entry_fwd (h x hx) b) (fun x _ => entryB_54 x) (by omega) b
theorem msg_fwd {m : Msg} (h : MsgOk m) (b : List UInt8) : rdMsg (msgB m ++ b) = some (m, b) := by
  unfold rdMsg thenRd msgB
  rw [List.append_assoc, show (7 : Nat) = m.nums.length from rfl, nums_fwd h.nums, Option.bind_some, log_fwd h.log h.len, Option.map_some]
  rfl
theorem rec_fwd {m : Rec} (h : RecOk m) (b : List UInt8) : rdRec (recB m ++ b) = some (m, b) := by
  unfold rdRec thenRd recB
  rw [List.append_assoc, show (3 : Nat) = m.nums.length from rfl, nums_fwd h.nums, Option.bind_some, log_fwd h.log h.len, Option.map_some]
  rfl

/-! ### The laws -/
theorem parseMsg_bytes {m : Msg} (h : msgR m = true) (hl : (msgB m).length ≤ 65536) : parseMsg (msgB m) = some m := by
  unfold parseMsg
  have := msg_fwd (msgR_ok h) []
  rw [List.append_nil] at this
  rw [this, Option.bind_some, if_pos ⟨rfl, hl, h⟩]
theorem parseMsg_back {b : List UInt8} {m : Msg} (h : parseMsg b = some m) : msgB m = b ∧ msgR m = true ∧ b.length ≤ 65536 := by
  unfold parseMsg at h
  cases hr : rdMsg b with
  | none => rw [hr] at h; cases h
  | some q =>
    obtain ⟨x, t⟩ := q
    rw [hr, Option.bind_some] at h
    split at h
    · rename_i hc
      injection h with h
      simp only at h
      subst h
      have e := (reads_msg).back hr
      have e1 : t = [] := hc.1
      rw [e1, List.append_nil] at e
      exact ⟨e.symm, hc.2.2, hc.2.1⟩
    · cases h
theorem msgB_inj {m m' : Msg} (h : msgR m = true) (h' : msgR m' = true) (e : msgB m = msgB m') : m = m' := by
  have q1 := msg_fwd (msgR_ok h) []
  have q2 := msg_fwd (msgR_ok h') []
  rw [e, q2] at q1
  injection q1 with q1
  injection q1 with q1 _
  exact q1.symm
theorem parseMsg_cut {m : Msg} (h : msgR m = true) {k : Nat} (hk : k < (msgB m).length) : parseMsg ((msgB m).take k) = none := by
  cases hp : parseMsg ((msgB m).take k) with
  | none => rfl
  | some m' =>
    exfalso
    obtain ⟨e1, e2, _⟩ := parseMsg_back hp
    have q1 := msg_fwd (msgR_ok h) []
    have q2 := msg_fwd (msgR_ok e2) ((msgB m).drop k)
    rw [e1, List.take_append_drop] at q2
    rw [List.append_nil, q2] at q1
    injection q1 with q1
    injection q1 with _ q1
    have := congrArg List.length q1
    rw [List.length_drop] at this
    have e0 : ([] : List UInt8).length = 0 := rfl
    omega
theorem parseMsg_more {m : Msg} (h : msgR m = true) {b : List UInt8} (hb : 0 < b.length) : parseMsg (msgB m ++ b) = none := by
  unfold parseMsg
  rw [msg_fwd (msgR_ok h) b, Option.bind_some, if_neg]
  rintro ⟨h1, _⟩
  simp only at h1
  subst h1
  simp at hb
theorem parseRec_bytes {m : Rec} (h : recR m = true) (hl : (recB m).length ≤ 65536) : parseRec (recB m) = some m := by
  unfold parseRec
  have := rec_fwd (recR_ok h) []
  rw [List.append_nil] at this
  rw [this, Option.bind_some, if_pos ⟨rfl, hl, h⟩]
theorem parseRec_back {b : List UInt8} {m : Rec} (h : parseRec b = some m) : recB m = b ∧ recR m = true ∧ b.length ≤ 65536 := by
  unfold parseRec at h
  cases hr : rdRec b with
  | none => rw [hr] at h; cases h
  | some q =>
    obtain ⟨x, t⟩ := q
    rw [hr, Option.bind_some] at h
    split at h
    · rename_i hc
      injection h with h
      simp only at h
      subst h
      have e := (reads_rec).back hr
      have e1 : t = [] := hc.1
      rw [e1, List.append_nil] at e
      exact ⟨e.symm, hc.2.2, hc.2.1⟩
    · cases h
theorem recB_inj {m m' : Rec} (h : recR m = true) (h' : recR m' = true) (e : recB m = recB m') : m = m' := by
  have q1 := rec_fwd (recR_ok h) []
  have q2 := rec_fwd (recR_ok h') []
  rw [e, q2] at q1
  injection q1 with q1
  injection q1 with q1 _
  exact q1.symm
theorem parseRec_cut {m : Rec} (h : recR m = true) {k : Nat} (hk : k < (recB m).length) : parseRec ((recB m).take k) = none := by
  cases hp : parseRec ((recB m).take k) with
  | none => rfl
  | some m' =>
    exfalso
    obtain ⟨e1, e2, _⟩ := parseRec_back hp
    have q1 := rec_fwd (recR_ok h) []
    have q2 := rec_fwd (recR_ok e2) ((recB m).drop k)
    rw [e1, List.take_append_drop] at q2
    rw [List.append_nil, q2] at q1
    injection q1 with q1
    injection q1 with _ q1
    have := congrArg List.length q1
    rw [List.length_drop] at this
    have e0 : ([] : List UInt8).length = 0 := rfl
    omega
theorem parseRec_more {m : Rec} (h : recR m = true) {b : List UInt8} (hb : 0 < b.length) : parseRec (recB m ++ b) = none := by
  unfold parseRec
  rw [rec_fwd (recR_ok h) b, Option.bind_some, if_neg]
  rintro ⟨h1, _⟩
  simp only at h1
  subst h1
  simp at hb
end Go.Proofs.Ytfpjickdkkhndaa.Pa


/- What the statements make of a delta and of entries. -/

namespace Go.Proofs.Ytfpjickdkkhndaa.Pa

set_option linter.unusedVariables false

set_option linter.unusedSimpArgs false

open Go.RowKit Go.Proofs.Ytfpjickdkkhndaa.C

attribute [local go_sem] max2_int min2_int max_two min_two

theorem infoRule2 : (Try.prog.info? 127).map (fun i => (i.zero, i.size, i.bytes)) = some (some (.agg #[.int .i64 0, .int .i64 0, .int .i64 0, .int .i64 0, .string ByteArray.empty]), 5, 48) := by kernel_rfl
theorem infoEntry2 : (Try.prog.info? 100).map (fun i => (i.zero, i.size, i.bytes)) = some (some (.agg #[.int .i64 0, .int .i64 0, .int .i64 0, .int .i64 0, .int .i64 0, .int .i64 0, .int .i64 0, .slice none 0 0, .slice none 0 0]), 9, 104) := by kernel_rfl
def MadeDelta (e : Entry) (A2 : Option Addr) (n2 c2 : Nat) (w : World) (e' : Ending) (w' : World) : Prop :=
  ∃ A' c', e' = .returned (.agg #[.int .i64 e.dflt, .int .i64 e.closed, .int .i64 e.fuel, .int .i64 e.stack, .slice A' e.put.length c', .slice A2 n2 c2]) ∧ Ty.At ruleK w' (fun k => w.heap.size ≤ k) A' e.put.length c' e.put ∧ Chg (fun _ => False) w w'
set_option maxHeartbeats 4000000 in
set_option maxRecDepth 100000 in
theorem delta_any {w : World} {R : Nat → Prop} {e : Entry} {A1 : Option Addr} {n1 c1 : Nat} {A2 : Option Addr} {n2 c2 : Nat} (he : EntryAt w R e A1 n1 c1 A2 n2 c2) (hn : n1 ≤ 1000000) :
    Calls Try.prog 60 #[.agg #[.int .i64 e.dflt, .int .i64 e.closed, .int .i64 e.fuel, .int .i64 e.stack, .slice A1 n1 c1, .slice A2 n2 c2]] w (MadeDelta e A2 n2 c2 w) := by
  have L1 := hid he.2.1.1
  have hn2 : (n1 : Int) ≤ 1000000 := by omega
  obtain ⟨p, hp⟩ : ∃ p, p = w.heap.size + 1 + 1 := ⟨_, rfl⟩
  obtain ⟨t, ht⟩ : ∃ t, t = w.heap.size + 1 := ⟨_, rfl⟩
  obtain ⟨w0, hw0⟩ : ∃ w0, w0 = ((w.alloc (.cells #[.int .i64 e.dflt, .int .i64 e.closed, .int .i64 e.fuel, .int .i64 e.stack, .slice A1 n1 c1, .slice A2 n2 c2] 50)).alloc (.cells #[.int .i64 0, .int .i64 0, .int .i64 0, .int .i64 0, .slice none 0 0, .slice none 0 0] 98)).alloc (.cells #[.int .i64 e.dflt, .int .i64 e.closed, .int .i64 e.fuel, .int .i64 e.stack, .slice none 0 0, .slice A2 n2 c2] 98) := ⟨_, rfl⟩
  have C0 := hid (show Chg (fun _ => False) w w0 by rw [hw0]; exact (((Chg.refl _ w).alloc _).alloc _).alloc _)
  have B0 := hid (show w0.heap[w.heap.size]? = some (.cells #[.int .i64 e.dflt, .int .i64 e.closed, .int .i64 e.fuel, .int .i64 e.stack, .slice A1 n1 c1, .slice A2 n2 c2] 50 (0, 0)) by rw [hw0]; exact blk_alloc (blk_alloc (blk_new w _) _) _)
  have T0 := hid (show w0.heap[t]? = some (.cells #[.int .i64 0, .int .i64 0, .int .i64 0, .int .i64 0, .slice none 0 0, .slice none 0 0] 98 (0, 0)) by
    rw [hw0, ht]
    refine blk_alloc ?_ _
    have := blk_new (w.alloc (.cells #[.int .i64 e.dflt, .int .i64 e.closed, .int .i64 e.fuel, .int .i64 e.stack, .slice A1 n1 c1, .slice A2 n2 c2] 50)) (.cells #[.int .i64 0, .int .i64 0, .int .i64 0, .int .i64 0, .slice none 0 0, .slice none 0 0] 98)
    simpa using this)
  have P0 := hid (show w0.heap[p]? = some (.cells #[.int .i64 e.dflt, .int .i64 e.closed, .int .i64 e.fuel, .int .i64 e.stack, .slice none 0 0, .slice A2 n2 c2] 98 (0, 0)) by
    rw [hw0, hp]
    have := blk_new ((w.alloc (.cells #[.int .i64 e.dflt, .int .i64 e.closed, .int .i64 e.fuel, .int .i64 e.stack, .slice A1 n1 c1, .slice A2 n2 c2] 50)).alloc (.cells #[.int .i64 0, .int .i64 0, .int .i64 0, .int .i64 0, .slice none 0 0, .slice none 0 0] 98)) (.cells #[.int .i64 e.dflt, .int .i64 e.closed, .int .i64 e.fuel, .int .i64 e.stack, .slice none 0 0, .slice A2 n2 c2] 98)
    simpa using this)
  have HPUT := hid (he.2.1.bound.chg C0.out (fun _ _ h => h))
  have htp : t ≠ p := by omega
  have hwt : w.heap.size < t := by omega
  have hwp : w.heap.size < p := by omega
  have hpl : p < w0.heap.size := lt_of_blk P0.out
  have x4 : w0.cell? ⟨w.heap.size, 4, none⟩ = some (.slice A1 n1 c1) := (cellAt B0.out 4).trans rfl
  have HP := hid hp
  have HTT := hid ht
  clear he
  go_enter Try.func60, Try.ntmps60
  go_wp2_with fail
  rw [← hp, ← ht, ← hw0]
  clear hw0 x4 hp ht
  go_loopw [20] (fun i wr => ∃ (k : Nat) (A' : Option Addr) (c' : Nat), k ≤ n1 ∧ i = .int .i64 k ∧ wr.heap[p]? = some (.cells #[.int .i64 e.dflt, .int .i64 e.closed, .int .i64 e.fuel, .int .i64 e.stack, .slice A' k c', .slice A2 n2 c2] 98 (0, 0)) ∧ Vec ruleK 127 wr (fun k => w0.heap.size ≤ k) (fun _ => False) (.slice A' k c') (e.put.take k) ∧ Chg (fun k => k = p) w0 wr) (fun i _ => n1 - (intOf i).toNat)
  case atStart => exact ⟨0, none, 0, Nat.zero_le _, rfl, P0.out, Vec.nil _ _ _ _ _, Chg.refl _ _⟩
  case round =>
    obtain ⟨k, A', c', hk, rfl, hB, hV, hC⟩ := hrel
    have HB := hid hB
    have HV := hid hV
    have HC := hid hC
    clear hB hV hC
    by_cases hlt : k < n1
    · have hlt2 : (k : Int) < (n1 : Int) := by omega
      obtain ⟨r, hr⟩ : ∃ r, e.put[k]? = some r := ⟨_, List.getElem?_eq_getElem (by have := L1.out; omega)⟩
      obtain ⟨a, cs, ha, haR, hK, hcs⟩ := HPUT.out.get (by decide) hr
      obtain ⟨rfl, hrw⟩ := rule_open hK
      subst ha
      have hcs2 : ∀ j u, (ruleCells r)[j]? = some u → wr.cell? (a.add (k * 5 + j)) = some u := fun j u hj => HC.out.cell (hcs j u hj) (by rw [add_block]; intro h; have := haR.2; omega)
      have x0 := elem_cell0 hcs2 _ rfl
      have x1 := elem_cell hcs2 0 _ rfl
      have x2 := elem_cell hcs2 1 _ rfl
      have x3 := elem_cell hcs2 2 _ rfl
      have x4 := elem_cell hcs2 3 _ rfl
      have HRW := hid hrw
      have HTK := hid (show e.put.take (k + 1) = e.put.take k ++ [r] by rw [List.take_add_one, hr]; rfl)
      have HKL := hid (show (e.put.take k).length = k by rw [List.length_take]; have := L1.out; omega)
      have C1 := hid (show Chg (fun _ => False) wr (wr.alloc (.cells #[.int .i64 r.id, .int .i64 r.pri, .int .i64 r.act, .int .i64 r.scope, .string r.pat] 54)) from (Chg.refl _ wr).alloc _)
      have y4 : (wr.alloc (.cells #[.int .i64 r.id, .int .i64 r.pri, .int .i64 r.act, .int .i64 r.scope, .string r.pat] 54)).cell? ⟨p, 4, none⟩ = some (.slice A' k c') := C1.out.cell ((cellAt HB.out 4).trans rfl) (fun h => h)
      have C2 := hid (show Chg (fun _ => False) wr ((wr.alloc (.cells #[.int .i64 r.id, .int .i64 r.pri, .int .i64 r.act, .int .i64 r.scope, .string r.pat] 54)).alloc (.cells #[.int .i64 r.id, .int .i64 r.pri, .int .i64 r.act, .int .i64 r.scope, .string r.pat] 127)) from C1.out.alloc _)
      have HV2 := hid (HV.out.chg C2.out (fun _ _ h => h) (fun _ h => h.elim))
      have HB2 := hid (C2.out.blk HB.out (fun h => h))
      have NS := hid (show Sees ((wr.alloc (.cells #[.int .i64 r.id, .int .i64 r.pri, .int .i64 r.act, .int .i64 r.scope, .string r.pat] 54)).alloc (.cells #[.int .i64 r.id, .int .i64 r.pri, .int .i64 r.act, .int .i64 r.scope, .string r.pat] 127)) (fun k => k = wr.heap.size + 1) (some ⟨wr.heap.size + 1, 0, none⟩) (Array.toList #[.int .i64 r.id, .int .i64 r.pri, .int .i64 r.act, .int .i64 r.scope, .string r.pat]) from by
        have := new_sees (wr.alloc (.cells #[.int .i64 r.id, .int .i64 r.pri, .int .i64 r.act, .int .i64 r.scope, .string r.pat] 54)) #[.int .i64 r.id, .int .i64 r.pri, .int .i64 r.act, .int .i64 r.scope, .string r.pat] 127
        simpa using this)
      have HOP := hid (show (Value.slice A' k c').ownBlock ≠ some p from fun e => by have := HV.out.inS p e; omega)
      clear hcs hK hcs2 hr haR hrw
      go_wp2_with (first | (at_builtin; refine vec_list (d := ruleK) _ rfl (.tmp 25) (.tmp 27) 96 127 (.agg #[.int .i64 0, .int .i64 0, .int .i64 0, .int .i64 0, .string ByteArray.empty]) 48 rfl Try.underlying96 infoRule2 rfl (by decide) (by decide) (.slice A' k c') rfl HV2.out (some ⟨wr.heap.size + 1, 0, none⟩) 1 1 (ys := [r]) rfl (by simp) (by omega) rfl NS.out (Ty.Row.one_ (rule_shut HRW.out)) (by rw [HKL.out]; omega) ?_; rw [HKL.out, ← HTK.out]; intro A4 c4 w4 h1 h2; have G1 := hid h1; have G2 := hid h2; clear h1 h2; have cp : w4.cell? ⟨p, 4, none⟩ = some (.slice A' k c') := (cellAt (G2.out.blk HB2.out HOP.out) 4).trans rfl; have fp : w4.frozen? ⟨p, 4, none⟩ = false := freeAt (G2.out.blk HB2.out HOP.out) 4))
      have HBN := hid (show (w4.setCell ⟨p, 4, none⟩ (.slice A4 (k + 1) c4)).heap[p]? = some (.cells #[.int .i64 e.dflt, .int .i64 e.closed, .int .i64 e.fuel, .int .i64 e.stack, .slice A4 (k + 1) c4, .slice A2 n2 c2] 98 (0, 0)) from blk_set (G2.out.blk HB2.out HOP.out) 4 _)
      have HVG := hid (G1.out.mono (S' := fun k => w0.heap.size ≤ k) (D' := fun _ => False) (fun j h _ => by rcases h with h | h; exact h; exact Nat.le_trans (Nat.le_trans HC.out.size C2.out.size) h) (fun _ h _ => h))
      have HVN := hid (HVG.out.chg (chg_at p 4 (.slice A4 (k + 1) c4) w4) (fun j hj e => by have := HVG.out.inS j hj; omega) (fun _ h => h.elim))
      have HCN := hid (show Chg (fun k => k = p) w0 (w4.setCell ⟨p, 4, none⟩ (.slice A4 (k + 1) c4)) from ((HC.out.trans C2.out (fun _ h _ => h.elim)).trans G2.out (fun j hj hl => by have := HV.out.inS j hj; omega)).trans (chg_at p 4 _ w4) (fun _ h _ => h))
      clear G1 G2 HB2 NS HV2 C1 C2 HVG
      go_roundw
      case measure => simp [intOf]; omega
      case rel => first | exact ⟨k + 1, A4, c4, hlt, by go_num, HBN.out, HVN.out, HCN.out⟩ | ((repeat apply Exists.intro); exact ⟨⟨k + 1, A4, c4, hlt, by go_num, HBN.out, HVN.out, HCN.out⟩, rfl⟩)
    · have hkn : ¬ (k : Int) < (n1 : Int) := by omega
      obtain rfl : k = n1 := by omega
      have BT := hid (HC.out.blk T0.out htp)
      have p0 : wr.cell? ⟨p, 0, none⟩ = some (.int .i64 e.dflt) := (cellAt HB.out 0).trans rfl
      have t0 : wr.cell? ⟨t, 0, none⟩ = some (.int .i64 0) := (cellAt BT.out 0).trans rfl
      have ft0 : wr.frozen? ⟨t, 0, none⟩ = false := freeAt BT.out 0
      have p1 : wr.cell? ⟨p, 1, none⟩ = some (.int .i64 e.closed) := (cellAt HB.out 1).trans rfl
      have t1 : wr.cell? ⟨t, 1, none⟩ = some (.int .i64 0) := (cellAt BT.out 1).trans rfl
      have ft1 : wr.frozen? ⟨t, 1, none⟩ = false := freeAt BT.out 1
      have p2 : wr.cell? ⟨p, 2, none⟩ = some (.int .i64 e.fuel) := (cellAt HB.out 2).trans rfl
      have t2 : wr.cell? ⟨t, 2, none⟩ = some (.int .i64 0) := (cellAt BT.out 2).trans rfl
      have ft2 : wr.frozen? ⟨t, 2, none⟩ = false := freeAt BT.out 2
      have p3 : wr.cell? ⟨p, 3, none⟩ = some (.int .i64 e.stack) := (cellAt HB.out 3).trans rfl
      have t3 : wr.cell? ⟨t, 3, none⟩ = some (.int .i64 0) := (cellAt BT.out 3).trans rfl
      have ft3 : wr.frozen? ⟨t, 3, none⟩ = false := freeAt BT.out 3
      have p4 : wr.cell? ⟨p, 4, none⟩ = some (.slice A' k c') := (cellAt HB.out 4).trans rfl
      have t4 : wr.cell? ⟨t, 4, none⟩ = some (.slice none 0 0) := (cellAt BT.out 4).trans rfl
      have ft4 : wr.frozen? ⟨t, 4, none⟩ = false := freeAt BT.out 4
      have p5 : wr.cell? ⟨p, 5, none⟩ = some (.slice A2 n2 c2) := (cellAt HB.out 5).trans rfl
      have t5 : wr.cell? ⟨t, 5, none⟩ = some (.slice none 0 0) := (cellAt BT.out 5).trans rfl
      have ft5 : wr.frozen? ⟨t, 5, none⟩ = false := freeAt BT.out 5
      go_wp2_with fail
      obtain ⟨PB, PC⟩ := put_blk [Value.int .i64 e.dflt, Value.int .i64 e.closed, Value.int .i64 e.fuel, Value.int .i64 e.stack, Value.slice A' k c', Value.slice A2 n2 c2] wr _ BT.out rfl
      generalize hW : ((((((wr.setCell ⟨t, 0, none⟩ (.int .i64 e.dflt)).setCell ⟨t, 1, none⟩ (.int .i64 e.closed)).setCell ⟨t, 2, none⟩ (.int .i64 e.fuel)).setCell ⟨t, 3, none⟩ (.int .i64 e.stack)).setCell ⟨t, 4, none⟩ (.slice A' k c')).setCell ⟨t, 5, none⟩ (.slice A2 n2 c2)) = W
      have PB' : W.heap[t]? = some (.cells #[.int .i64 e.dflt, .int .i64 e.closed, .int .i64 e.fuel, .int .i64 e.stack, .slice A' k c', .slice A2 n2 c2] 98 (0, 0)) := by rw [← hW]; exact PB
      have PC' : Chg (fun k => k = t) wr W := by rw [← hW]; exact PC
      clear PB PC hW p0 t0 ft0 p1 t1 ft1 p2 t2 ft2 p3 t3 ft3 p4 t4 ft4 p5 t5 ft5
      have z0 : W.cell? ⟨t, 0, none⟩ = some (.int .i64 e.dflt) := (cellAt PB' 0).trans rfl
      have z1 : W.cell? ⟨t, 1, none⟩ = some (.int .i64 e.closed) := (cellAt PB' 1).trans rfl
      have z2 : W.cell? ⟨t, 2, none⟩ = some (.int .i64 e.fuel) := (cellAt PB' 2).trans rfl
      have z3 : W.cell? ⟨t, 3, none⟩ = some (.int .i64 e.stack) := (cellAt PB' 3).trans rfl
      have z4 : W.cell? ⟨t, 4, none⟩ = some (.slice A' k c') := (cellAt PB' 4).trans rfl
      have z5 : W.cell? ⟨t, 5, none⟩ = some (.slice A2 n2 c2) := (cellAt PB' 5).trans rfl
      refine bodyPost_ret (v := .agg #[.int .i64 e.dflt, .int .i64 e.closed, .int .i64 e.fuel, .int .i64 e.stack, .slice A' k c', .slice A2 n2 c2]) (by simp [results, Try.results60, go_sem, z0, z1, z2, z3, z4, z5]) rfl ?_
      have s0 := C0.out.size
      have hv := HV.out
      rw [List.take_of_length_le (by have := L1.out; omega)] at hv
      have l1 := L1.out
      have tl := lt_of_blk T0.out
      refine ⟨A', c', by rw [← l1], ?_, ((C0.out.trans HC.out (fun k hk hl => by omega)).trans PC' (fun k hk hl => by omega))⟩
      rw [← l1]
      exact (hv.chg PC' (fun j hj e => by have := hv.inS j hj; omega) (fun _ h => h.elim)).at.mono (fun k hk => by rcases hk with hk | hk; exact Nat.le_trans s0 hk; exact hk.elim)
end Go.Proofs.Ytfpjickdkkhndaa.Pa


/- What the statements make of entries. -/

namespace Go.Proofs.Ytfpjickdkkhndaa.Pa

set_option linter.unusedVariables false

set_option linter.unusedSimpArgs false

open Go.RowKit Go.Proofs.Ytfpjickdkkhndaa.C

attribute [local go_sem] max2_int min2_int max_two min_two

def MadeEntries (R : Nat → Prop) (xs : List Entry) (w : World) (e' : Ending) (w' : World) : Prop :=
  ∃ A' c', e' = .returned (.slice A' xs.length c') ∧ Ty.At entryK w' (fun k => (R k ∧ k < w.heap.size) ∨ w.heap.size ≤ k) A' xs.length c' xs ∧ Chg (fun _ => False) w w'
set_option maxHeartbeats 4000000 in
set_option maxRecDepth 100000 in
theorem entries_any {w : World} {R : Nat → Prop} {xs : List Entry} {A : Option Addr} {n c : Nat} (hl : Ty.At entryK w R A n c xs) (hn : n ≤ 1000000) (hput : ∀ e ∈ xs, e.put.length ≤ 1000000) :
    Calls Try.prog 38 #[.slice A n c] w (MadeEntries R xs w) := by
  have HL := hid hl.bound
  have L1 := hid hl.1
  have HPUT := hid hput
  have hn2 : (n : Int) ≤ 1000000 := by omega
  clear hl hput
  go_enter Try.func38, Try.ntmps38
  go_wp2_with fail
  go_loopw [3, 8] (fun sl i wr => ∃ (k : Nat) (A' : Option Addr) (c' : Nat), k ≤ n ∧ i = .int .i64 k ∧ sl = .slice A' k c' ∧ Vec entryK 100 wr (fun k => w.heap.size ≤ k) (fun k => (R k ∧ k < w.heap.size) ∨ w.heap.size ≤ k) (.slice A' k c') (xs.take k) ∧ Chg (fun _ => False) w wr) (fun _ i _ => n - (intOf i).toNat)
  case atStart => exact ⟨0, none, 0, Nat.zero_le _, rfl, rfl, Vec.nil _ _ _ _ _, Chg.refl _ _⟩
  case round =>
    obtain ⟨k, A', c', hk, rfl, rfl, hV, hC⟩ := hrel
    have HV := hid hV
    have HC := hid hC
    clear hV hC
    by_cases hlt : k < n
    · have hlt2 : (k : Int) < (n : Int) := by omega
      obtain ⟨r, hr⟩ : ∃ r, xs[k]? = some r := ⟨_, List.getElem?_eq_getElem (by have := L1.out; omega)⟩
      have hpl := HPUT.out r (List.mem_of_getElem? hr)
      obtain ⟨a, cs, ha, haR, hK, hcs⟩ := HL.out.get (by decide) hr
      obtain ⟨E1, m1, d1, E2, m2, d2, rfl, hrw⟩ := entry_open (id hK)
      subst ha
      have hcs2 : ∀ j u, (entryCells r E1 m1 d1 E2 m2 d2)[j]? = some u → wr.cell? (a.add (k * 9 + j)) = some u := fun j u hj => HC.out.cell (hcs j u hj) (fun h => h)
      have x0 := elem_cell0 hcs2 _ rfl
      have x1 := elem_cell hcs2 0 _ rfl
      have x2 := elem_cell hcs2 1 _ rfl
      have x3 := elem_cell hcs2 2 _ rfl
      have x4 := elem_cell hcs2 3 _ rfl
      have x5 := elem_cell hcs2 4 _ rfl
      have x6 := elem_cell hcs2 5 _ rfl
      have x7 := elem_cell hcs2 6 _ rfl
      have x8 := elem_cell hcs2 7 _ rfl
      have HRW := hid (hrw.chg HC.out (fun _ _ h => h))
      have HTK := hid (show xs.take (k + 1) = xs.take k ++ [r] by rw [List.take_add_one, hr]; rfl)
      have HKL := hid (show (xs.take k).length = k by rw [List.length_take]; have := L1.out; omega)
      have hm1 : m1 ≤ 1000000 := by have := hrw.2.1.1; omega
      have hm1e : m1 = r.put.length := hrw.2.1.1
      obtain ⟨W1, hW1⟩ : ∃ W1, W1 = wr.alloc (.cells #[.int .i64 r.view, .int .i64 r.client, .int .i64 r.request, .int .i64 r.dflt, .int .i64 r.closed, .int .i64 r.fuel, .int .i64 r.stack, .slice E1 m1 d1, .slice E2 m2 d2] 52) := ⟨_, rfl⟩
      have C1 := hid (show Chg (fun _ => False) wr W1 by rw [hW1]; exact (Chg.refl _ wr).alloc _)
      have B1 := hid (show W1.heap[wr.heap.size]? = some (.cells #[.int .i64 r.view, .int .i64 r.client, .int .i64 r.request, .int .i64 r.dflt, .int .i64 r.closed, .int .i64 r.fuel, .int .i64 r.stack, .slice E1 m1 d1, .slice E2 m2 d2] 52 (0, 0)) by rw [hW1]; exact blk_new wr _)
      obtain ⟨M, hMM⟩ : ∃ M : Nat → Prop, ∀ i, M i ↔ (Value.slice A' k c').ownBlock = some i := ⟨_, fun _ => Iff.rfl⟩
      have MM := hid hMM
      have HNM := hid (show ¬ M wr.heap.size from fun h => Nat.lt_irrefl _ (HV.out.lt _ ((MM.out _).1 h)))
      have y0 : ∀ wx, Chg M W1 wx → wx.cell? ⟨wr.heap.size, 0, none⟩ = some (.int .i64 r.view) := fun wx hx => hx.cell (by rw [cellAt B1.out]; rfl) HNM.out
      have y1 : ∀ wx, Chg M W1 wx → wx.cell? ⟨wr.heap.size, 1, none⟩ = some (.int .i64 r.client) := fun wx hx => hx.cell (by rw [cellAt B1.out]; rfl) HNM.out
      have y2 : ∀ wx, Chg M W1 wx → wx.cell? ⟨wr.heap.size, 2, none⟩ = some (.int .i64 r.request) := fun wx hx => hx.cell (by rw [cellAt B1.out]; rfl) HNM.out
      have y3 : ∀ wx, Chg M W1 wx → wx.cell? ⟨wr.heap.size, 3, none⟩ = some (.int .i64 r.dflt) := fun wx hx => hx.cell (by rw [cellAt B1.out]; rfl) HNM.out
      have y4 : ∀ wx, Chg M W1 wx → wx.cell? ⟨wr.heap.size, 4, none⟩ = some (.int .i64 r.closed) := fun wx hx => hx.cell (by rw [cellAt B1.out]; rfl) HNM.out
      have y5 : ∀ wx, Chg M W1 wx → wx.cell? ⟨wr.heap.size, 5, none⟩ = some (.int .i64 r.fuel) := fun wx hx => hx.cell (by rw [cellAt B1.out]; rfl) HNM.out
      have y6 : ∀ wx, Chg M W1 wx → wx.cell? ⟨wr.heap.size, 6, none⟩ = some (.int .i64 r.stack) := fun wx hx => hx.cell (by rw [cellAt B1.out]; rfl) HNM.out
      have y7 : ∀ wx, Chg M W1 wx → wx.cell? ⟨wr.heap.size, 7, none⟩ = some (.slice E1 m1 d1) := fun wx hx => hx.cell (by rw [cellAt B1.out]; rfl) HNM.out
      have y8 : ∀ wx, Chg M W1 wx → wx.cell? ⟨wr.heap.size, 8, none⟩ = some (.slice E2 m2 d2) := fun wx hx => hx.cell (by rw [cellAt B1.out]; rfl) HNM.out
      clear hcs hK hcs2 hr haR hrw hMM hm1e
      have HM1E := hid (show m1 = r.put.length from HRW.out.2.1.1)
      go_wp2_with fail
      rw [← hW1]
      clear hW1 x0 x1 x2 x3 x4 x5 x6 x7 x8
      refine wpB_start (fun wx : World => Chg M W1 wx) (by kernel_rfl) ?_
      have hHeld : (fun wx : World => Chg M W1 wx) _ := (by first | assumption | exact Chg.drew (Chg.refl _ _) | (show _ ∧ _; refine ⟨?_, ?_⟩ <;> assumption) | (first | assumption | exact hHeld.alloc _ | exact hHeld.trans HZ.out (fun _ h _ => h.elim) | exact hHeld.trans h2 (fun _ h _ => (MM.out _).2 h)))
      -- 0: t12 := move t3 : 39
      refine wpB_take (i := 0) (v := ?_) (get_of_drop rfl) (by kernel_rfl) (by kernel_rfl) (by kernel_rfl) (by kernel_rfl) (fun _ _ _ h => h) (Or.inl ⟨by rfl, ?_⟩) hHeld ?_
      rotate_left
      · (intro w hSw; (try dsimp only at hSw); go_simp <;> with_reducible rfl)
      try simp only [Act.put, List.setIfInBounds_toArray, List.set_cons_zero, List.set_cons_succ]
      -- 1: t13 := fieldAddr 52 t5 0 : 0
      refine wpB_take (i := 1) (v := ?_) (get_of_drop rfl) (by kernel_rfl) (by kernel_rfl) (by kernel_rfl) (by kernel_rfl) (fun _ _ _ h => h) (Or.inl ⟨by rfl, ?_⟩) hHeld ?_
      rotate_left
      · (intro w hSw; (try dsimp only at hSw); go_simp <;> with_reducible rfl)
      try simp only [Act.put, List.setIfInBounds_toArray, List.set_cons_zero, List.set_cons_succ]
      -- 2: t14 := load 3 t13 : 3
      refine wpB_take (i := 2) (v := ?_) (get_of_drop rfl) (by kernel_rfl) (by kernel_rfl) (by kernel_rfl) (by kernel_rfl) (fun _ _ _ h => h) (Or.inl ⟨by rfl, ?_⟩) hHeld ?_
      rotate_left
      · (intro w hSw; (try dsimp only at hSw); go_simp <;> with_reducible rfl)
      try simp only [Act.put, List.setIfInBounds_toArray, List.set_cons_zero, List.set_cons_succ]
      -- 3: t15 := fieldAddr 52 t5 1 : 0
      refine wpB_take (i := 3) (v := ?_) (get_of_drop rfl) (by kernel_rfl) (by kernel_rfl) (by kernel_rfl) (by kernel_rfl) (fun _ _ _ h => h) (Or.inl ⟨by rfl, ?_⟩) hHeld ?_
      rotate_left
      · (intro w hSw; (try dsimp only at hSw); go_simp <;> with_reducible rfl)
      try simp only [Act.put, List.setIfInBounds_toArray, List.set_cons_zero, List.set_cons_succ]
      -- 4: t16 := load 3 t15 : 3
      refine wpB_take (i := 4) (v := ?_) (get_of_drop rfl) (by kernel_rfl) (by kernel_rfl) (by kernel_rfl) (by kernel_rfl) (fun _ _ _ h => h) (Or.inl ⟨by rfl, ?_⟩) hHeld ?_
      rotate_left
      · (intro w hSw; (try dsimp only at hSw); go_simp <;> with_reducible rfl)
      try simp only [Act.put, List.setIfInBounds_toArray, List.set_cons_zero, List.set_cons_succ]
      -- 5: t17 := fieldAddr 52 t5 2 : 0
      refine wpB_take (i := 5) (v := ?_) (get_of_drop rfl) (by kernel_rfl) (by kernel_rfl) (by kernel_rfl) (by kernel_rfl) (fun _ _ _ h => h) (Or.inl ⟨by rfl, ?_⟩) hHeld ?_
      rotate_left
      · (intro w hSw; (try dsimp only at hSw); go_simp <;> with_reducible rfl)
      try simp only [Act.put, List.setIfInBounds_toArray, List.set_cons_zero, List.set_cons_succ]
      -- 6: t18 := load 3 t17 : 3
      refine wpB_take (i := 6) (v := ?_) (get_of_drop rfl) (by kernel_rfl) (by kernel_rfl) (by kernel_rfl) (by kernel_rfl) (fun _ _ _ h => h) (Or.inl ⟨by rfl, ?_⟩) hHeld ?_
      rotate_left
      · (intro w hSw; (try dsimp only at hSw); go_simp <;> with_reducible rfl)
      try simp only [Act.put, List.setIfInBounds_toArray, List.set_cons_zero, List.set_cons_succ]
      -- 7: t19 := fieldAddr 52 t5 3 : 0
      refine wpB_take (i := 7) (v := ?_) (get_of_drop rfl) (by kernel_rfl) (by kernel_rfl) (by kernel_rfl) (by kernel_rfl) (fun _ _ _ h => h) (Or.inl ⟨by rfl, ?_⟩) hHeld ?_
      rotate_left
      · (intro w hSw; (try dsimp only at hSw); go_simp <;> with_reducible rfl)
      try simp only [Act.put, List.setIfInBounds_toArray, List.set_cons_zero, List.set_cons_succ]
      -- 8: t20 := load 50 t19 : 50
      refine wpB_take (i := 8) (v := ?_) (get_of_drop rfl) (by kernel_rfl) (by kernel_rfl) (by kernel_rfl) (by kernel_rfl) (fun _ _ _ h => h) (Or.inl ⟨by rfl, ?_⟩) hHeld ?_
      rotate_left
      · (intro w hSw; (try dsimp only at hSw); go_simp <;> with_reducible rfl)
      try simp only [Act.put, List.setIfInBounds_toArray, List.set_cons_zero, List.set_cons_succ]
      -- 9: t21 := CALL fn60(t20) : 98
      refine wpB_act (i := 9) (by kernel_rfl) (get_of_drop rfl) (fun K hK => ?_)
      go_simp
      refine (delta_any (e := r) ((HRW.out.chg C1.out (fun _ _ h => h)).chg (Chg.refl (fun _ => False) W1).drew (fun _ _ h => h)) hm1).mono ?_
      rintro e' wy ⟨B1', b1, rfl, hat, hcy⟩
      have HZ := hid hcy
      have HAT := hid hat.bound
      have CY := hid (show Chg (fun _ => False) W1 wy from (Chg.refl (fun _ => False) W1).drew.trans hcy (fun _ h _ => h))
      have MADEROW := hid (show ∀ w', Chg (fun _ => False) wy w' → Ty.Row entryK w' (fun k' => ((R k' ∧ k' < w.heap.size) ∨ w.heap.size ≤ k') ∧ (Value.slice A' k c').ownBlock ≠ some k' ∧ k' < w'.heap.size) [r] (Array.toList #[.int .i64 r.view, .int .i64 r.client, .int .i64 r.request, .int .i64 r.dflt, .int .i64 r.closed, .int .i64 r.fuel, .int .i64 r.stack, .slice B1' r.put.length b1, .slice E2 m2 d2]) from fun w' hc => Ty.Row.one_ (entry_shut (A1 := B1') (n1 := r.put.length) (c1 := b1) ⟨HRW.out.1, (HAT.out.chg hc (fun _ _ h => h)).mono (fun j hj => ⟨.inr (Nat.le_trans (Nat.le_trans HC.out.size C1.out.size) hj.1), fun e' => Nat.lt_irrefl _ (Nat.lt_of_lt_of_le (HV.out.lt j e') (Nat.le_trans C1.out.size hj.1)), Nat.lt_of_lt_of_le hj.2 hc.size⟩), (((HRW.out.2.2.bound.chg C1.out (fun _ _ h => h)).chg CY.out (fun _ _ h => h)).chg hc (fun _ _ h => h)).mono (fun j hj => ⟨.inl hj.1, fun e' => by have q1 := HV.out.inS j e'; have q2 := hj.1.2; omega, Nat.lt_of_lt_of_le hj.2 (Nat.le_trans (Nat.le_trans C1.out.size CY.out.size) hc.size)⟩)⟩))
      clear hcy hat
      refine hK.out _ _ ?_ (fun hHeld2 => ?_)
      · (first | assumption | exact hHeld.alloc _ | exact hHeld.trans HZ.out (fun _ h _ => h.elim) | exact hHeld.trans h2 (fun _ h _ => (MM.out _).2 h))
      clear hHeld hK K
      have hHeld := hHeld2
      clear hHeld2
      try simp only [Act.put, List.setIfInBounds_toArray, List.set_cons_zero, List.set_cons_succ]
      -- 10: t22 := build 100 [⟨0, t14⟩, ⟨1, t16⟩, ⟨2, t18⟩, ⟨3, t21⟩] : 100
      refine wpB_take (i := 10) (v := ?_) (get_of_drop rfl) (by kernel_rfl) (by kernel_rfl) (by kernel_rfl) (by kernel_rfl) (fun _ _ _ h => h) (Or.inl ⟨by rfl, ?_⟩) hHeld ?_
      rotate_left
      · (intro w hSw; (try dsimp only at hSw); go_simp <;> with_reducible rfl)
      try simp only [Act.put, List.setIfInBounds_toArray, List.set_cons_zero, List.set_cons_succ]
      -- 11: t23 := buildSlice 39 1 [⟨0, t22⟩] : 39
      refine wpB_act (i := 11) (by kernel_rfl) (get_of_drop rfl) (fun K hK => ?_)
      go_simp
      refine hK.out _ _ ?_ (fun hHeld2 => ?_)
      · (first | assumption | exact hHeld.alloc _ | exact hHeld.trans HZ.out (fun _ h _ => h.elim) | exact hHeld.trans h2 (fun _ h _ => (MM.out _).2 h))
      clear hHeld hK K
      have hHeld := hHeld2
      clear hHeld2
      try simp only [Act.put, List.setIfInBounds_toArray, List.set_cons_zero, List.set_cons_succ]
      -- 12: t24 := append(t12, t23) types [39, 39] : 39
      refine wpB_act (i := 12) (by kernel_rfl) (get_of_drop rfl) (fun K hK => ?_)
      refine vec_step (d := entryK) _ rfl (.tmp 12) (.tmp 23) 39 100 (.agg #[.int .i64 0, .int .i64 0, .int .i64 0, .int .i64 0, .int .i64 0, .int .i64 0, .int .i64 0, .slice none 0 0, .slice none 0 0]) 104 rfl Try.underlying39 infoEntry2 rfl (by decide) (by decide) (.slice A' k c') rfl (((HV.out.chg C1.out (fun _ _ h => h) (fun _ _ _ _ h => h)).chg CY.out (fun _ _ h => h) (fun _ _ _ _ h => h)).chg ((Chg.refl (fun _ => False) wy).alloc (.cells #[.int .i64 r.view, .int .i64 r.client, .int .i64 r.request, .int .i64 r.dflt, .int .i64 r.closed, .int .i64 r.fuel, .int .i64 r.stack, .slice B1' r.put.length b1, .slice E2 m2 d2] 100)) (fun _ _ h => h) (fun _ _ _ _ h => h)) (some ⟨wy.heap.size, 0, none⟩) 1 1 (ys := [r]) rfl (by simp) (by omega) rfl (new_sees wy #[.int .i64 r.view, .int .i64 r.client, .int .i64 r.request, .int .i64 r.dflt, .int .i64 r.closed, .int .i64 r.fuel, .int .i64 r.stack, .slice B1' r.put.length b1, .slice E2 m2 d2] 100) (MADEROW.out _ ((Chg.refl (fun _ => False) wy).alloc (.cells #[.int .i64 r.view, .int .i64 r.client, .int .i64 r.request, .int .i64 r.dflt, .int .i64 r.closed, .int .i64 r.fuel, .int .i64 r.stack, .slice B1' r.put.length b1, .slice E2 m2 d2] 100))) (by rw [HKL.out]; omega) ?_
      have HH := hid hHeld
      rw [HKL.out, ← HTK.out]
      intro A4 c4 w4 h1 h2
      refine hK.out _ _ ?_ (fun hHeld2 => ?_)
      · (first | assumption | exact hHeld.alloc _ | exact hHeld.trans HZ.out (fun _ h _ => h.elim) | exact hHeld.trans h2 (fun _ h _ => (MM.out _).2 h))
      clear hHeld hK K
      have hHeld := hHeld2
      clear hHeld2
      try simp only [Act.put, List.setIfInBounds_toArray, List.set_cons_zero, List.set_cons_succ]
      -- 13: t3 := assign t24 : 39
      refine wpB_take (i := 13) (v := ?_) (get_of_drop rfl) (by kernel_rfl) (by kernel_rfl) (by kernel_rfl) (by kernel_rfl) (fun _ _ _ h => h) (Or.inl ⟨by rfl, ?_⟩) hHeld ?_
      rotate_left
      · (intro w hSw; (try dsimp only at hSw); go_simp <;> with_reducible rfl)
      try simp only [Act.put, List.setIfInBounds_toArray, List.set_cons_zero, List.set_cons_succ]
      refine wpB_done (by kernel_rfl) ?_ _
      have HVN := hid (h1.mono (S' := fun k => w.heap.size ≤ k) (D' := fun k => (R k ∧ k < w.heap.size) ∨ w.heap.size ≤ k) (fun j h _ => by rcases h with h | h; exact h; exact Nat.le_trans (Nat.le_trans (Nat.le_trans HC.out.size C1.out.size) CY.out.size) (Nat.le_trans ((Chg.refl (fun _ => False) wy).alloc _).size h)) (fun _ h _ => h))
      have HCN := hid (show Chg (fun _ => False) w w4 from ((((HC.out.trans C1.out (fun _ h _ => h)).trans CY.out (fun _ h _ => h)).alloc _).trans h2 (fun j hj hl => by have := HV.out.inS j hj; omega)))
      clear h1 h2 hHeld y0 y1 y2 y3 y4 y5 y6 y7 y8
      go_wp2_with fail
      go_roundw
      case measure => simp [intOf]; omega
      case rel => first | exact ⟨k + 1, A4, c4, hlt, by go_num, rfl, HVN.out, HCN.out⟩ | ((repeat apply Exists.intro); exact ⟨⟨k + 1, A4, c4, hlt, by go_num, rfl, HVN.out, HCN.out⟩, rfl⟩)
    · have hkn : ¬ (k : Int) < (n : Int) := by omega
      obtain rfl : k = n := by omega
      go_wp2_with fail
      go_ret
      have hv := HV.out
      rw [List.take_of_length_le (by have := L1.out; omega)] at hv
      have l1 := L1.out
      refine ⟨A', c', by rw [← l1]; rfl, ?_, HC.out⟩
      rw [← l1]
      exact hv.at.mono (fun k hk => by rcases hk with hk | hk; exact .inr hk; exact hk)
end Go.Proofs.Ytfpjickdkkhndaa.Pa


/- What the statements make of messages and records. -/

namespace Go.Proofs.Ytfpjickdkkhndaa.Pa

set_option linter.unusedVariables false

set_option linter.unusedSimpArgs false

open Go.RowKit Go.Proofs.Ytfpjickdkkhndaa.C

attribute [local go_sem] max2_int min2_int max_two min_two

def MadeMsg (R : Nat → Prop) (m : Msg) (w : World) (e' : Ending) (w' : World) : Prop :=
  ∃ A' c', e' = .returned (.agg #[.int .i64 m.kind, .int .i64 m.view, .int .i64 m.src, .int .i64 m.dst, .int .i64 m.op, .int .i64 m.commit, .int .i64 m.normal, .slice A' m.log.length c']) ∧ Ty.At entryK w' (fun k => (R k ∧ k < w.heap.size) ∨ w.heap.size ≤ k) A' m.log.length c' m.log ∧ Chg (fun _ => False) w w'
def MadeRec (R : Nat → Prop) (m : Rec) (w : World) (e' : Ending) (w' : World) : Prop :=
  ∃ A' c', e' = .returned (.agg #[.int .i64 m.kind, .int .i64 m.a, .int .i64 m.b, .slice A' m.log.length c']) ∧ Ty.At entryK w' (fun k => (R k ∧ k < w.heap.size) ∨ w.heap.size ≤ k) A' m.log.length c' m.log ∧ Chg (fun _ => False) w w'
set_option maxHeartbeats 4000000 in
set_option maxRecDepth 100000 in
theorem maderec_any {w : World} {R : Nat → Prop} {m : Rec} {A : Option Addr} {n c : Nat} (hl : Ty.At entryK w R A n c m.log) (hn : n ≤ 1000000) (hput : ∀ e ∈ m.log, e.put.length ≤ 1000000) :
    Calls Try.prog 27 #[.agg #[.int .i64 m.kind, .int .i64 m.a, .int .i64 m.b, .slice A n c]] w (MadeRec R m w) := by
  obtain ⟨w0, hw0⟩ : ∃ w0, w0 = (w.alloc (.cells #[.int .i64 m.kind, .int .i64 m.a, .int .i64 m.b, .slice A n c] 62)).alloc (.cells #[.int .i64 0, .int .i64 0, .int .i64 0, .slice none 0 0] 67) := ⟨_, rfl⟩
  have C0 := hid (show Chg (fun _ => False) w w0 by rw [hw0]; exact ((Chg.refl _ w).alloc _).alloc _)
  have B0 := hid (show w0.heap[w.heap.size]? = some (.cells #[.int .i64 m.kind, .int .i64 m.a, .int .i64 m.b, .slice A n c] 62 (0, 0)) by rw [hw0]; exact blk_alloc (blk_new w _) _)
  have T0 := hid (show w0.heap[w.heap.size + 1]? = some (.cells #[.int .i64 0, .int .i64 0, .int .i64 0, .slice none 0 0] 67 (0, 0)) by
    rw [hw0]
    have := blk_new (w.alloc (.cells #[.int .i64 m.kind, .int .i64 m.a, .int .i64 m.b, .slice A n c] 62)) (.cells #[.int .i64 0, .int .i64 0, .int .i64 0, .slice none 0 0] 67)
    simpa using this)
  have HL := hid hl
  have HL0 := hid (hl.bound.chg C0.out (fun _ _ h => h))
  have HPUT := hid hput
  have x0 : ∀ wx, Chg (fun k => k = w.heap.size + 1) w0 wx → wx.cell? ⟨w.heap.size, 0, none⟩ = some (.int .i64 m.kind) := fun wx hx => hx.cell (by rw [cellAt B0.out]; rfl) (by show ¬ w.heap.size = _; omega)
  have x1 : ∀ wx, Chg (fun k => k = w.heap.size + 1) w0 wx → wx.cell? ⟨w.heap.size, 1, none⟩ = some (.int .i64 m.a) := fun wx hx => hx.cell (by rw [cellAt B0.out]; rfl) (by show ¬ w.heap.size = _; omega)
  have x2 : ∀ wx, Chg (fun k => k = w.heap.size + 1) w0 wx → wx.cell? ⟨w.heap.size, 2, none⟩ = some (.int .i64 m.b) := fun wx hx => hx.cell (by rw [cellAt B0.out]; rfl) (by show ¬ w.heap.size = _; omega)
  have x3 : ∀ wx, Chg (fun k => k = w.heap.size + 1) w0 wx → wx.cell? ⟨w.heap.size, 3, none⟩ = some (.slice A n c) := fun wx hx => hx.cell (by rw [cellAt B0.out]; rfl) (by show ¬ w.heap.size = _; omega)
  clear hl hput
  go_enter Try.func27, Try.ntmps27
  go_wp2_with fail
  rw [← hw0]
  clear hw0
  refine wpB_start (fun wx : World => Chg (fun k => k = w.heap.size + 1) w0 wx) (by kernel_rfl) ?_
  have hHeld : (fun wx : World => Chg (fun k => k = w.heap.size + 1) w0 wx) _ := (by first | assumption | exact Chg.drew (Chg.refl _ _) | (show _ ∧ _; refine ⟨?_, ?_⟩ <;> assumption) | (first | (with_reducible exact hHeld.trans HZ.out (fun _ h _ => h.elim)) | (with_reducible exact ((((hHeld.set (p := ⟨w.heap.size + 1, 0, none⟩) (fun _ => rfl) (.int .i64 m.kind)).set (p := ⟨w.heap.size + 1, 1, none⟩) (fun _ => rfl) (.int .i64 m.a)).set (p := ⟨w.heap.size + 1, 2, none⟩) (fun _ => rfl) (.int .i64 m.b)).set (p := ⟨w.heap.size + 1, 3, none⟩) (fun _ => rfl) (.slice A' m.log.length c')))))
  -- 0: t3 := fieldAddr 62 t1 0 : 0
  refine wpB_take (i := 0) (v := ?_) (get_of_drop rfl) (by kernel_rfl) (by kernel_rfl) (by kernel_rfl) (by kernel_rfl) (fun _ _ _ h => h) (Or.inl ⟨by rfl, ?_⟩) hHeld ?_
  rotate_left
  · (intro w hSw; (try dsimp only at hSw); go_simp <;> with_reducible rfl)
  try simp only [Act.put, List.setIfInBounds_toArray, List.set_cons_zero, List.set_cons_succ]
  -- 1: t4 := load 3 t3 : 3
  refine wpB_take (i := 1) (v := ?_) (get_of_drop rfl) (by kernel_rfl) (by kernel_rfl) (by kernel_rfl) (by kernel_rfl) (fun _ _ _ h => h) (Or.inl ⟨by rfl, ?_⟩) hHeld ?_
  rotate_left
  · (intro w hSw; (try dsimp only at hSw); go_simp <;> with_reducible rfl)
  try simp only [Act.put, List.setIfInBounds_toArray, List.set_cons_zero, List.set_cons_succ]
  -- 2: t5 := fieldAddr 62 t1 1 : 0
  refine wpB_take (i := 2) (v := ?_) (get_of_drop rfl) (by kernel_rfl) (by kernel_rfl) (by kernel_rfl) (by kernel_rfl) (fun _ _ _ h => h) (Or.inl ⟨by rfl, ?_⟩) hHeld ?_
  rotate_left
  · (intro w hSw; (try dsimp only at hSw); go_simp <;> with_reducible rfl)
  try simp only [Act.put, List.setIfInBounds_toArray, List.set_cons_zero, List.set_cons_succ]
  -- 3: t6 := load 3 t5 : 3
  refine wpB_take (i := 3) (v := ?_) (get_of_drop rfl) (by kernel_rfl) (by kernel_rfl) (by kernel_rfl) (by kernel_rfl) (fun _ _ _ h => h) (Or.inl ⟨by rfl, ?_⟩) hHeld ?_
  rotate_left
  · (intro w hSw; (try dsimp only at hSw); go_simp <;> with_reducible rfl)
  try simp only [Act.put, List.setIfInBounds_toArray, List.set_cons_zero, List.set_cons_succ]
  -- 4: t7 := fieldAddr 62 t1 2 : 0
  refine wpB_take (i := 4) (v := ?_) (get_of_drop rfl) (by kernel_rfl) (by kernel_rfl) (by kernel_rfl) (by kernel_rfl) (fun _ _ _ h => h) (Or.inl ⟨by rfl, ?_⟩) hHeld ?_
  rotate_left
  · (intro w hSw; (try dsimp only at hSw); go_simp <;> with_reducible rfl)
  try simp only [Act.put, List.setIfInBounds_toArray, List.set_cons_zero, List.set_cons_succ]
  -- 5: t8 := load 3 t7 : 3
  refine wpB_take (i := 5) (v := ?_) (get_of_drop rfl) (by kernel_rfl) (by kernel_rfl) (by kernel_rfl) (by kernel_rfl) (fun _ _ _ h => h) (Or.inl ⟨by rfl, ?_⟩) hHeld ?_
  rotate_left
  · (intro w hSw; (try dsimp only at hSw); go_simp <;> with_reducible rfl)
  try simp only [Act.put, List.setIfInBounds_toArray, List.set_cons_zero, List.set_cons_succ]
  -- 6: t9 := fieldAddr 62 t1 3 : 0
  refine wpB_take (i := 6) (v := ?_) (get_of_drop rfl) (by kernel_rfl) (by kernel_rfl) (by kernel_rfl) (by kernel_rfl) (fun _ _ _ h => h) (Or.inl ⟨by rfl, ?_⟩) hHeld ?_
  rotate_left
  · (intro w hSw; (try dsimp only at hSw); go_simp <;> with_reducible rfl)
  try simp only [Act.put, List.setIfInBounds_toArray, List.set_cons_zero, List.set_cons_succ]
  -- 7: t10 := load 30 t9 : 30
  refine wpB_take (i := 7) (v := ?_) (get_of_drop rfl) (by kernel_rfl) (by kernel_rfl) (by kernel_rfl) (by kernel_rfl) (fun _ _ _ h => h) (Or.inl ⟨by rfl, ?_⟩) hHeld ?_
  rotate_left
  · (intro w hSw; (try dsimp only at hSw); go_simp <;> with_reducible rfl)
  try simp only [Act.put, List.setIfInBounds_toArray, List.set_cons_zero, List.set_cons_succ]
  -- 8: t11 := CALL fn38(t10) : 39
  refine wpB_act (i := 8) (by kernel_rfl) (get_of_drop rfl) (fun K hK => ?_)
  go_simp
  refine (entries_any ((HL0.out.chg (Chg.refl (fun _ => False) w0).drew (fun _ _ h => h))) hn HPUT.out).mono ?_
  rintro e' wy ⟨A', c', rfl, hat, hcy⟩
  have HZ := hid hcy
  have HAT := hid hat
  have yz0 : wy.cell? ⟨w.heap.size + 1, 0, none⟩ = some (.int .i64 0) := hcy.cell (show w0.drew.cell? _ = _ from (cellAt T0.out 0).trans rfl) (fun h => h)
  have fz0 : wy.frozen? ⟨w.heap.size + 1, 0, none⟩ = false := freeAt (hcy.blk (show w0.drew.heap[w.heap.size + 1]? = _ from T0.out) (fun h => h)) 0
  have yz1 : wy.cell? ⟨w.heap.size + 1, 1, none⟩ = some (.int .i64 0) := hcy.cell (show w0.drew.cell? _ = _ from (cellAt T0.out 1).trans rfl) (fun h => h)
  have fz1 : wy.frozen? ⟨w.heap.size + 1, 1, none⟩ = false := freeAt (hcy.blk (show w0.drew.heap[w.heap.size + 1]? = _ from T0.out) (fun h => h)) 1
  have yz2 : wy.cell? ⟨w.heap.size + 1, 2, none⟩ = some (.int .i64 0) := hcy.cell (show w0.drew.cell? _ = _ from (cellAt T0.out 2).trans rfl) (fun h => h)
  have fz2 : wy.frozen? ⟨w.heap.size + 1, 2, none⟩ = false := freeAt (hcy.blk (show w0.drew.heap[w.heap.size + 1]? = _ from T0.out) (fun h => h)) 2
  have yz3 : wy.cell? ⟨w.heap.size + 1, 3, none⟩ = some (.slice none 0 0) := hcy.cell (show w0.drew.cell? _ = _ from (cellAt T0.out 3).trans rfl) (fun h => h)
  have fz3 : wy.frozen? ⟨w.heap.size + 1, 3, none⟩ = false := freeAt (hcy.blk (show w0.drew.heap[w.heap.size + 1]? = _ from T0.out) (fun h => h)) 3
  clear hcy hat
  refine hK.out _ _ ?_ (fun hHeld2 => ?_)
  · (first | (with_reducible exact hHeld.trans HZ.out (fun _ h _ => h.elim)) | (with_reducible exact ((((hHeld.set (p := ⟨w.heap.size + 1, 0, none⟩) (fun _ => rfl) (.int .i64 m.kind)).set (p := ⟨w.heap.size + 1, 1, none⟩) (fun _ => rfl) (.int .i64 m.a)).set (p := ⟨w.heap.size + 1, 2, none⟩) (fun _ => rfl) (.int .i64 m.b)).set (p := ⟨w.heap.size + 1, 3, none⟩) (fun _ => rfl) (.slice A' m.log.length c'))))
  clear hHeld hK K
  have hHeld := hHeld2
  clear hHeld2
  try simp only [Act.put, List.setIfInBounds_toArray, List.set_cons_zero, List.set_cons_succ]
  -- 9: t12 := build 67 [⟨0, t4⟩, ⟨1, t6⟩, ⟨2, t8⟩, ⟨3, t11⟩] : 67
  refine wpB_take (i := 9) (v := ?_) (get_of_drop rfl) (by kernel_rfl) (by kernel_rfl) (by kernel_rfl) (by kernel_rfl) (fun _ _ _ h => h) (Or.inl ⟨by rfl, ?_⟩) hHeld ?_
  rotate_left
  · (intro w hSw; (try dsimp only at hSw); go_simp <;> with_reducible rfl)
  try simp only [Act.put, List.setIfInBounds_toArray, List.set_cons_zero, List.set_cons_succ]
  -- 10: t- := store 67 t2 t12 : 0 (BARRIER)
  refine wpB_bar (i := 10) (by kernel_rfl) (get_of_drop rfl) (by kernel_rfl) (fun K hK => ?_)
  go_simp
  refine hK.out _ _ (fun _ : World => True) ?_
  clear hHeld hK K
  have hHeld := trivial
  try simp only [Act.put, List.setIfInBounds_toArray, List.set_cons_zero, List.set_cons_succ]
  refine wpB_done (by kernel_rfl) ?_ _
  clear hHeld x0 x1 x2 x3 yz0 fz0 yz1 fz1 yz2 fz2 yz3 fz3
  go_wp2_with fail
  have CY := hid (show Chg (fun _ => False) w0 wy from (Chg.refl (fun _ => False) w0).drew.trans HZ.out (fun _ h _ => h))
  obtain ⟨PB, PC⟩ := put_blk [Value.int .i64 m.kind, Value.int .i64 m.a, Value.int .i64 m.b, Value.slice A' m.log.length c'] wy _ (CY.out.blk T0.out (fun h => h)) rfl
  generalize hW : ((((wy.setCell ⟨w.heap.size + 1, 0, none⟩ (.int .i64 m.kind)).setCell ⟨w.heap.size + 1, 1, none⟩ (.int .i64 m.a)).setCell ⟨w.heap.size + 1, 2, none⟩ (.int .i64 m.b)).setCell ⟨w.heap.size + 1, 3, none⟩ (.slice A' m.log.length c')) = W
  have PB' : W.heap[w.heap.size + 1]? = some (.cells #[.int .i64 m.kind, .int .i64 m.a, .int .i64 m.b, .slice A' m.log.length c'] 67 (0, 0)) := by rw [← hW]; exact PB
  have PC' : Chg (fun k => k = w.heap.size + 1) wy W := by rw [← hW]; exact PC
  clear PB PC hW
  have z0 : W.cell? ⟨w.heap.size + 1, 0, none⟩ = some (.int .i64 m.kind) := (cellAt PB' 0).trans rfl
  have z1 : W.cell? ⟨w.heap.size + 1, 1, none⟩ = some (.int .i64 m.a) := (cellAt PB' 1).trans rfl
  have z2 : W.cell? ⟨w.heap.size + 1, 2, none⟩ = some (.int .i64 m.b) := (cellAt PB' 2).trans rfl
  have z3 : W.cell? ⟨w.heap.size + 1, 3, none⟩ = some (.slice A' m.log.length c') := (cellAt PB' 3).trans rfl
  refine bodyPost_ret (v := .agg #[.int .i64 m.kind, .int .i64 m.a, .int .i64 m.b, .slice A' m.log.length c']) (by simp [results, Try.results27, go_sem, z0, z1, z2, z3]) rfl ?_
  have s0 := C0.out.size
  have t0 := lt_of_blk T0.out
  refine ⟨A', c', rfl, (HAT.out.bound.chg PC' (fun k hk e => ?_)).mono (fun k hk => ?_), ((C0.out.trans CY.out (fun _ h _ => h)).trans PC' (fun k hk hl => by omega))⟩
  · subst e
    rcases hk.1 with q | q
    · have := q.1.2; omega
    · have q1 : w0.heap.size ≤ w.heap.size + 1 := q; omega
  · rcases hk.1 with q | q
    · exact .inl ⟨q.1.1, q.1.2⟩
    · exact .inr (Nat.le_trans s0 q)
end Go.Proofs.Ytfpjickdkkhndaa.Pa


/- What the statements ask of messages and records: are they alike? -/

namespace Go.Proofs.Ytfpjickdkkhndaa.Pa

set_option linter.unusedVariables false

set_option linter.unusedSimpArgs false

open Go.RowKit Go.Proofs.Ytfpjickdkkhndaa.C

attribute [local go_sem] max2_int min2_int max_two min_two

deriving instance DecidableEq for Msg
deriving instance DecidableEq for Rec
theorem msg_dec (m x : Msg) : decide (m = x) = (m.kind == x.kind && m.view == x.view && m.src == x.src && m.dst == x.dst && m.op == x.op && m.commit == x.commit && m.normal == x.normal && decide (m.log = x.log)) := by
  cases m
  cases x
  rw [Bool.eq_iff_iff]
  simp [and_assoc]
theorem rec_dec (m x : Rec) : decide (m = x) = (m.kind == x.kind && m.a == x.a && m.b == x.b && decide (m.log = x.log)) := by
  cases m
  cases x
  rw [Bool.eq_iff_iff]
  simp [and_assoc]

end Go.Proofs.Ytfpjickdkkhndaa.Pa
