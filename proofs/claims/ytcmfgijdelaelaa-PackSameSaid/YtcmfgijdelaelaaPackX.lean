
/- The document's reader: its rule. -/

import Derived.Test.YtcmfgijdelaelaaPackV

namespace Go.Proofs.Ytcmfgijdelaelaa.Pa

set_option linter.unusedVariables false

set_option linter.unusedSimpArgs false

open Go.RowKit Go.Proofs.Ytcmfgijdelaelaa.C

attribute [local go_sem] max2_int min2_int max_two min_two

theorem rdZero {X : Option (List UInt8)} : X.bind (rdList rdNum 0) = X.map fun r => ([], r) := by cases X <;> rfl
/-- One number more. -/
theorem rdMore {X Y Z : Option (List UInt8)} {k : Nat} {us : List Int} {u : Int} (h : X.bind (rdList rdNum k) = Y.map fun r => (us, r)) (h2 : Y.bind rdNum = Z.map fun r => (u, r)) : X.bind (rdList rdNum (k + 1)) = Z.map fun r => (us ++ [u], r) := by
  rw [rdList_step h, h2]
  cases Z <;> rfl
theorem put_blk {g : Nat} {e : TypeId} (vs : List Value) (w : World) (cur : Array Value) (h : w.heap[g]? = some (.cells cur e (0, 0))) (hl : vs.length = cur.size) : (w.setCells g 0 vs).heap[g]? = some (.cells vs.toArray e (0, 0)) ∧ Chg (fun k => k = g) w (w.setCells g 0 vs) := by
  obtain ⟨cur', h1, h2⟩ := setCells_row vs 0 w cur h (by omega)
  refine ⟨?_, setCells_chg g vs 0 w⟩
  have e : cur' = vs.toArray := by
    apply Array.ext'
    rw [h2]
    simp [hl]
  rw [h1, e]
def RfRule (w : World) (B g : Nat) (A : Option Addr) (n c : Nat) (b : List UInt8) (at_ : Nat) (bad : Bool) (e : Ending) (w' : World) : Prop :=
  ∃ r : Rule, RuleWf r ∧ e = .returned (.agg (ruleCells r).toArray) ∧ Chg (fun k => k = g) w w' ∧ RfTo B g A n c b at_ bad rdRule w' r

set_option maxHeartbeats 4000000 in
set_option maxRecDepth 100000 in
theorem refrule_r {w : World} {B g : Nat} {A : Option Addr} {n c : Nat} {b : List UInt8} {at_ : Nat} {bad : Bool} (h : Rf w B g A n c b at_ bad) (hn : n ≤ 1000000) :
    Calls Try.prog 73 #[.pointer (some ⟨g, 0, none⟩)] w (RfRule w B g A n c b at_ bad) := by
  have H := hid h
  have HG := hid h.lt
  have hn2 : (n : Int) ≤ 1000000 := by omega
  obtain ⟨w0, hw0⟩ : ∃ w0, w0 = w.alloc (.cells #[.int .i64 0, .int .i64 0, .int .i64 0, .int .i64 0, .string ⟨#[]⟩] 100) := ⟨_, rfl⟩
  have C0 := hid (show Chg (fun _ => False) w w0 by rw [hw0]; exact (Chg.refl _ w).alloc _)
  have B0 := hid (show w0.heap[w.heap.size]? = some (.cells #[.int .i64 0, .int .i64 0, .int .i64 0, .int .i64 0, .string ⟨#[]⟩] 100 (0, 0)) by rw [hw0]; exact blk_new w _)
  have H0 := hid (h.chg C0.out (fun _ h => h.elim) (fun h => h))
  have E0 := hid (rdZero (X := left b at_ bad))
  clear h
  go_enter Try.func73, Try.ntmps73
  go_wp2_with fail
  rw [← hw0]
  clear hw0
  refine (refnum_r H0.out hn).mono ?_
  rintro e w1 ⟨u1, rfl, hw1, hc1, at1, bad1, hr1, eq1⟩
  have H1 := hid hr1
  have C1 := hid hc1
  have E1 := hid (rdMore E0.out eq1)
  have W1 := hid hw1
  clear hw1 hc1 hr1 eq1
  go_wp2_with fail
  refine (refnum_r H1.out hn).mono ?_
  rintro e w2 ⟨u2, rfl, hw2, hc2, at2, bad2, hr2, eq2⟩
  have H2 := hid hr2
  have C2 := hid (C1.out.trans hc2 (fun _ h _ => h))
  have E2 := hid (rdMore E1.out eq2)
  have W2 := hid hw2
  clear hw2 hc2 hr2 eq2
  go_wp2_with fail
  refine (refnum_r H2.out hn).mono ?_
  rintro e w3 ⟨u3, rfl, hw3, hc3, at3, bad3, hr3, eq3⟩
  have H3 := hid hr3
  have C3 := hid (C2.out.trans hc3 (fun _ h _ => h))
  have E3 := hid (rdMore E2.out eq3)
  have W3 := hid hw3
  clear hw3 hc3 hr3 eq3
  go_wp2_with fail
  refine (refnum_r H3.out hn).mono ?_
  rintro e w4 ⟨u4, rfl, hw4, hc4, at4, bad4, hr4, eq4⟩
  have H4 := hid hr4
  have C4 := hid (C3.out.trans hc4 (fun _ h _ => h))
  have E4 := hid (rdMore E3.out eq4)
  have W4 := hid hw4
  clear hw4 hc4 hr4 eq4 H1 H2 H3 E0 E1 E2 E3 C1 C2 C3
  go_wp2_with fail
  have C5 := hid (show Chg (fun _ => False) w4 (w4.alloc (.cells #[.int .i64 u1, .int .i64 u2, .int .i64 u3, .int .i64 u4, .string ⟨#[]⟩] 100)) from (Chg.refl _ w4).alloc _)
  have B5 := hid (blk_new w4 (.cells #[.int .i64 u1, .int .i64 u2, .int .i64 u3, .int .i64 u4, .string ⟨#[]⟩] 100))
  refine (refcount_r (H4.out.chg C5.out (fun _ h => h.elim) (fun h => h)) hn).mono ?_
  rintro e w6 ⟨q, rfl, hqn, hc6, at6, bad6, hr6, eq6⟩
  have HR := hid hr6
  have E6 := hid eq6
  have hg4 : g ≠ w4.heap.size := by have := H4.out.lt; omega
  have hgw : g ≠ w.heap.size := by have := HG.out; omega
  have hsz : w.heap.size < w4.heap.size := Nat.lt_of_lt_of_le (lt_of_blk B0.out) C4.out.size
  have hwz : w.heap.size ≠ w4.heap.size := by omega
  have BX := hid (hc6.blk B5.out (fun e => hg4 e.symm))
  have BT := hid (hc6.blk (C5.out.blk (C4.out.blk B0.out (fun e => hgw e.symm)) (fun h => h)) (fun e => hgw e.symm))
  have CZ := hid ((C5.out.mono (S' := fun k => k = g) (fun _ h _ => h.elim)).trans hc6 (fun _ h _ => h))
  obtain ⟨d0, d1, d2⟩ := hr6.cells
  have hle := hr6.le
  have x0 : w6.cell? ⟨w4.heap.size, 0, none⟩ = _ := cellAt BX.out 0
  have x1 : w6.cell? ⟨w4.heap.size, 1, none⟩ = _ := cellAt BX.out 1
  have x2 : w6.cell? ⟨w4.heap.size, 2, none⟩ = _ := cellAt BX.out 2
  have x3 : w6.cell? ⟨w4.heap.size, 3, none⟩ = _ := cellAt BX.out 3
  have x4 : w6.cell? ⟨w4.heap.size, 4, none⟩ = _ := cellAt BX.out 4
  have y0 : w6.cell? ⟨w.heap.size, 0, none⟩ = _ := cellAt BT.out 0
  have y1 : w6.cell? ⟨w.heap.size, 1, none⟩ = _ := cellAt BT.out 1
  have y2 : w6.cell? ⟨w.heap.size, 2, none⟩ = _ := cellAt BT.out 2
  have y3 : w6.cell? ⟨w.heap.size, 3, none⟩ = _ := cellAt BT.out 3
  have y4 : w6.cell? ⟨w.heap.size, 4, none⟩ = _ := cellAt BT.out 4
  simp only [List.getElem?_toArray, List.getElem?_cons_zero, List.getElem?_cons_succ] at x0 x1 x2 x3 x4 y0 y1 y2 y3 y4
  have f0 : w6.frozen? ⟨w.heap.size, 0, none⟩ = false := freeAt BT.out 0
  have f1 : w6.frozen? ⟨w.heap.size, 1, none⟩ = false := freeAt BT.out 1
  have f2 : w6.frozen? ⟨w.heap.size, 2, none⟩ = false := freeAt BT.out 2
  have f3 : w6.frozen? ⟨w.heap.size, 3, none⟩ = false := freeAt BT.out 3
  have f4 : w6.frozen? ⟨w.heap.size, 4, none⟩ = false := freeAt BT.out 4
  clear hc6 hr6 eq6
  cases bad6 with
  | true =>
    go_wp2_with fail
    have HRF := hid (fun W (PC' : Chg (fun k => k = w.heap.size) w6 W) => (show RfTo B g A n c b at_ bad rdRule W (mkRule [u1, u2, u3, u4] (bts ⟨#[]⟩)) from ⟨at6, true, HR.out.chg PC' (fun k hk => by subst hk; exact Nat.le_trans H.out.low (Nat.le_of_lt HG.out)) hgw, thenRd_eq mkRule E4.out (by have := rdText_of E6.out; rw [left_none, Option.map_none] at this; rw [this, left_none, Option.map_none])⟩))
    obtain ⟨PB, PC⟩ := put_blk (ruleCells (mkRule [u1, u2, u3, u4] (bts (⟨#[]⟩)))) w6 _ BT.out rfl
    generalize hW : (((((w6.setCell ⟨w.heap.size, 0, none⟩ (.int .i64 u1)).setCell ⟨w.heap.size, 1, none⟩ (.int .i64 u2)).setCell ⟨w.heap.size, 2, none⟩ (.int .i64 u3)).setCell ⟨w.heap.size, 3, none⟩ (.int .i64 u4)).setCell ⟨w.heap.size, 4, none⟩ (.string ⟨#[]⟩)) = W
    have PB' : W.heap[w.heap.size]? = some (.cells (ruleCells (mkRule [u1, u2, u3, u4] (bts (⟨#[]⟩)))).toArray 100 (0, 0)) := by rw [← hW]; exact PB
    have PC' : Chg (fun k => k = w.heap.size) w6 W := by rw [← hW]; exact PC
    clear PB PC hW x0 x1 x2 x3 x4 y0 y1 y2 y3 y4 f0 f1 f2 f3 f4 d0 d1 d2
    have z0 : W.cell? ⟨w.heap.size, 0, none⟩ = some (.int .i64 u1) := by rw [cellAt PB']; rfl
    have z1 : W.cell? ⟨w.heap.size, 1, none⟩ = some (.int .i64 u2) := by rw [cellAt PB']; rfl
    have z2 : W.cell? ⟨w.heap.size, 2, none⟩ = some (.int .i64 u3) := by rw [cellAt PB']; rfl
    have z3 : W.cell? ⟨w.heap.size, 3, none⟩ = some (.int .i64 u4) := by rw [cellAt PB']; rfl
    have z4 : W.cell? ⟨w.heap.size, 4, none⟩ = some (.string ⟨#[]⟩) := by rw [cellAt PB']; rfl
    refine bodyPost_ret (v := .agg #[.int .i64 u1, .int .i64 u2, .int .i64 u3, .int .i64 u4, .string ⟨#[]⟩]) (by simp [results, Try.results73, go_sem, z0, z1, z2, z3, z4]) rfl ?_
    refine ⟨mkRule [u1, u2, u3, u4] (bts (⟨#[]⟩)), ⟨?_, by show ByteArray.size ⟨#[]⟩ ≤ maxLen; decide⟩, rfl, ?_, HRF.out W PC'⟩
    · intro u hu
      simp [mkRule, Rule.nums] at hu
      rcases hu with rfl | rfl | rfl | rfl
      · exact W1.out
      · exact W2.out
      · exact W3.out
      · exact W4.out
    · exact (((C0.out.mono (S' := fun k => k = g) (fun _ h _ => h.elim)).trans C4.out (fun _ h _ => h)).trans CZ.out (fun _ h _ => h)).trans (PC'.mono (S' := fun k => k = w.heap.size) (fun _ h _ => h)) (fun k hk hl => by subst hk; exact absurd hl (Nat.lt_irrefl _))
  | false =>
    have hqle : at6 + q ≤ n := count_le E6.out HR.out.row.1 hle
    have ea : IntKind.i64.wrap ((at6 : Int) + (q : Int)) = (at6 : Int) + (q : Int) := IntWalk.i64_in _ (by omega)
    obtain ⟨A6, c6, hcut, hat⟩ := Ty.At.mid_ (P := Try.prog) (d := Ty.u8) Try.underlying25 info5 A n c at6 (at6 + q) q (at6 : Int) ((at6 : Int) + (q : Int)) rfl (by omega) (by omega) (by omega) HR.out.row.2.1 (by omega)
    have HX := hid (hat w6 _ b HR.out.row)
    have HDT := hid (drop_take_q (b := b) (at_ := at6) (q := q))
    obtain ⟨t, ht⟩ : ∃ t, t = bstr ((b.drop at6).take q) := ⟨_, rfl⟩
    have HTT := hid ht
    have hM : ∀ wx, Chg (fun k => k = w4.heap.size) w6 wx → (convert 25 9 (.slice A6 q c6)).run Try.prog wx = .ok (.string t) wx := fun wx hx => by
      have q1 := HX.out.chg hx (fun k hk e => by subst e; have := H.out.low; have := HG.out; omega)
      rw [HTT.out, ← HDT.out]
      exact str_run Try.underlying25 Try.underlying5 Try.underlying9 q1.1 q1.bytes q1.2.2.2.1 q1.2.1
    have hc0 : ∀ wx, Chg (fun k => k = w4.heap.size) w6 wx → wx.cell? ⟨g, 0, none⟩ = some (.slice A n c) := fun wx hx => hx.cell d0 hg4
    have hc1 : ∀ wx, Chg (fun k => k = w4.heap.size) w6 wx → wx.cell? ⟨g, 1, none⟩ = some (.int .i64 (at6 : Int)) := fun wx hx => hx.cell d1 hg4
    have fx : w6.drew.frozen? ⟨w4.heap.size, 4, none⟩ = false := freeAt (w := w6.drew) BX.out 4
    have cx : w6.drew.cell? ⟨w4.heap.size, 4, none⟩ = some (.string ⟨#[]⟩) := x4
    have HSZ := hid (show (mkRule [u1, u2, u3, u4] (bts t)).pat.size ≤ maxLen by
      show (bstr (bts t)).size ≤ maxLen
      rw [bstr_bts, HTT.out, bstr_size, List.length_take]
      exact Nat.le_trans (Nat.min_le_left _ _) (by simp [maxLen]; omega))
    clear hat HX HDT ht
    go_wp2_with fail
    refine wpB_start (fun wx : World => Chg (fun k => k = w4.heap.size) w6 wx) (by kernel_rfl) ?_
    have hHeld : (fun wx : World => Chg (fun k => k = w4.heap.size) w6 wx) _ := (by first | assumption | exact Chg.drew (Chg.refl _ _) | (show _ ∧ _; refine ⟨?_, ?_⟩ <;> assumption) | (first | assumption | exact hHeld.set (fun _ => rfl) _))
    -- 0: t21 := move t0 : 85
    refine wpB_take (i := 0) (v := ?_) (get_of_drop rfl) (by kernel_rfl) (by kernel_rfl) (by kernel_rfl) (by kernel_rfl) (fun _ _ _ h => h) (Or.inl ⟨by rfl, ?_⟩) hHeld ?_
    rotate_left
    · (intro w hSw; (try dsimp only at hSw); go_simp <;> with_reducible rfl)
    try simp only [Act.put, List.setIfInBounds_toArray, List.set_cons_zero, List.set_cons_succ]
    -- 1: t22 := nilCheck t21 : 0
    refine wpB_take (i := 1) (v := ?_) (get_of_drop rfl) (by kernel_rfl) (by kernel_rfl) (by kernel_rfl) (by kernel_rfl) (fun _ _ _ h => h) (Or.inl ⟨by rfl, ?_⟩) hHeld ?_
    rotate_left
    · (intro w hSw; (try dsimp only at hSw); go_simp <;> with_reducible rfl)
    try simp only [Act.put, List.setIfInBounds_toArray, List.set_cons_zero, List.set_cons_succ]
    -- 2: t23 := fieldAddr 87 t22 0 : 0
    refine wpB_take (i := 2) (v := ?_) (get_of_drop rfl) (by kernel_rfl) (by kernel_rfl) (by kernel_rfl) (by kernel_rfl) (fun _ _ _ h => h) (Or.inl ⟨by rfl, ?_⟩) hHeld ?_
    rotate_left
    · (intro w hSw; (try dsimp only at hSw); go_simp <;> with_reducible rfl)
    try simp only [Act.put, List.setIfInBounds_toArray, List.set_cons_zero, List.set_cons_succ]
    -- 3: t24 := load 25 t23 : 25
    refine wpB_take (i := 3) (v := ?_) (get_of_drop rfl) (by kernel_rfl) (by kernel_rfl) (by kernel_rfl) (by kernel_rfl) (fun _ _ _ h => h) (Or.inl ⟨by rfl, ?_⟩) hHeld ?_
    rotate_left
    · (intro w hSw; (try dsimp only at hSw); go_simp <;> with_reducible rfl)
    try simp only [Act.put, List.setIfInBounds_toArray, List.set_cons_zero, List.set_cons_succ]
    -- 4: t25 := move t0 : 85
    refine wpB_take (i := 4) (v := ?_) (get_of_drop rfl) (by kernel_rfl) (by kernel_rfl) (by kernel_rfl) (by kernel_rfl) (fun _ _ _ h => h) (Or.inl ⟨by rfl, ?_⟩) hHeld ?_
    rotate_left
    · (intro w hSw; (try dsimp only at hSw); go_simp <;> with_reducible rfl)
    try simp only [Act.put, List.setIfInBounds_toArray, List.set_cons_zero, List.set_cons_succ]
    -- 5: t26 := nilCheck t25 : 0
    refine wpB_take (i := 5) (v := ?_) (get_of_drop rfl) (by kernel_rfl) (by kernel_rfl) (by kernel_rfl) (by kernel_rfl) (fun _ _ _ h => h) (Or.inl ⟨by rfl, ?_⟩) hHeld ?_
    rotate_left
    · (intro w hSw; (try dsimp only at hSw); go_simp <;> with_reducible rfl)
    try simp only [Act.put, List.setIfInBounds_toArray, List.set_cons_zero, List.set_cons_succ]
    -- 6: t27 := fieldAddr 87 t26 1 : 0
    refine wpB_take (i := 6) (v := ?_) (get_of_drop rfl) (by kernel_rfl) (by kernel_rfl) (by kernel_rfl) (by kernel_rfl) (fun _ _ _ h => h) (Or.inl ⟨by rfl, ?_⟩) hHeld ?_
    rotate_left
    · (intro w hSw; (try dsimp only at hSw); go_simp <;> with_reducible rfl)
    try simp only [Act.put, List.setIfInBounds_toArray, List.set_cons_zero, List.set_cons_succ]
    -- 7: t28 := load 3 t27 : 3
    refine wpB_take (i := 7) (v := ?_) (get_of_drop rfl) (by kernel_rfl) (by kernel_rfl) (by kernel_rfl) (by kernel_rfl) (fun _ _ _ h => h) (Or.inl ⟨by rfl, ?_⟩) hHeld ?_
    rotate_left
    · (intro w hSw; (try dsimp only at hSw); go_simp <;> with_reducible rfl)
    try simp only [Act.put, List.setIfInBounds_toArray, List.set_cons_zero, List.set_cons_succ]
    -- 8: t29 := move t0 : 85
    refine wpB_take (i := 8) (v := ?_) (get_of_drop rfl) (by kernel_rfl) (by kernel_rfl) (by kernel_rfl) (by kernel_rfl) (fun _ _ _ h => h) (Or.inl ⟨by rfl, ?_⟩) hHeld ?_
    rotate_left
    · (intro w hSw; (try dsimp only at hSw); go_simp <;> with_reducible rfl)
    try simp only [Act.put, List.setIfInBounds_toArray, List.set_cons_zero, List.set_cons_succ]
    -- 9: t30 := nilCheck t29 : 0
    refine wpB_take (i := 9) (v := ?_) (get_of_drop rfl) (by kernel_rfl) (by kernel_rfl) (by kernel_rfl) (by kernel_rfl) (fun _ _ _ h => h) (Or.inl ⟨by rfl, ?_⟩) hHeld ?_
    rotate_left
    · (intro w hSw; (try dsimp only at hSw); go_simp <;> with_reducible rfl)
    try simp only [Act.put, List.setIfInBounds_toArray, List.set_cons_zero, List.set_cons_succ]
    -- 10: t31 := fieldAddr 87 t30 1 : 0
    refine wpB_take (i := 10) (v := ?_) (get_of_drop rfl) (by kernel_rfl) (by kernel_rfl) (by kernel_rfl) (by kernel_rfl) (fun _ _ _ h => h) (Or.inl ⟨by rfl, ?_⟩) hHeld ?_
    rotate_left
    · (intro w hSw; (try dsimp only at hSw); go_simp <;> with_reducible rfl)
    try simp only [Act.put, List.setIfInBounds_toArray, List.set_cons_zero, List.set_cons_succ]
    -- 11: t32 := load 3 t31 : 3
    refine wpB_take (i := 11) (v := ?_) (get_of_drop rfl) (by kernel_rfl) (by kernel_rfl) (by kernel_rfl) (by kernel_rfl) (fun _ _ _ h => h) (Or.inl ⟨by rfl, ?_⟩) hHeld ?_
    rotate_left
    · (intro w hSw; (try dsimp only at hSw); go_simp <;> with_reducible rfl)
    try simp only [Act.put, List.setIfInBounds_toArray, List.set_cons_zero, List.set_cons_succ]
    -- 12: t33 := move t4 : 3
    refine wpB_take (i := 12) (v := ?_) (get_of_drop rfl) (by kernel_rfl) (by kernel_rfl) (by kernel_rfl) (by kernel_rfl) (fun _ _ _ h => h) (Or.inl ⟨by rfl, ?_⟩) hHeld ?_
    rotate_left
    · (intro w hSw; (try dsimp only at hSw); go_simp <;> with_reducible rfl)
    try simp only [Act.put, List.setIfInBounds_toArray, List.set_cons_zero, List.set_cons_succ]
    -- 13: t34 := binOp BinOp.add 3 t32 t33 3 : 3
    refine wpB_take (i := 13) (v := ?_) (get_of_drop rfl) (by kernel_rfl) (by kernel_rfl) (by kernel_rfl) (by kernel_rfl) (fun _ _ _ h => h) (Or.inl ⟨by rfl, ?_⟩) hHeld ?_
    rotate_left
    · (intro w hSw; (try dsimp only at hSw); go_simp <;> with_reducible rfl)
    try simp only [Act.put, List.setIfInBounds_toArray, List.set_cons_zero, List.set_cons_succ]
    -- 14: t35 := slice 25 t24 some t28 some t34 none : 25
    refine wpB_take (i := 14) (v := ?_) (get_of_drop rfl) (by kernel_rfl) (by kernel_rfl) (by kernel_rfl) (by kernel_rfl) (fun _ _ _ h => h) (Or.inl ⟨by rfl, ?_⟩) hHeld ?_
    rotate_left
    · (intro w hSw; (try dsimp only at hSw); go_simp <;> with_reducible rfl)
    try simp only [Act.put, List.setIfInBounds_toArray, List.set_cons_zero, List.set_cons_succ]
    -- 15: t36 := convert 25 9 t35 : 9
    refine wpB_take (i := 15) (v := ?_) (get_of_drop rfl) (by kernel_rfl) (by kernel_rfl) (by kernel_rfl) (by kernel_rfl) (fun _ _ _ h => h) (Or.inl ⟨by rfl, ?_⟩) hHeld ?_
    rotate_left
    · (intro w hSw; (try dsimp only at hSw); go_simp <;> with_reducible rfl)
    try simp only [Act.put, List.setIfInBounds_toArray, List.set_cons_zero, List.set_cons_succ]
    -- 16: t37 := fieldAddr 100 t3 4 : 0
    refine wpB_take (i := 16) (v := ?_) (get_of_drop rfl) (by kernel_rfl) (by kernel_rfl) (by kernel_rfl) (by kernel_rfl) (fun _ _ _ h => h) (Or.inl ⟨by rfl, ?_⟩) hHeld ?_
    rotate_left
    · (intro w hSw; (try dsimp only at hSw); go_simp <;> with_reducible rfl)
    try simp only [Act.put, List.setIfInBounds_toArray, List.set_cons_zero, List.set_cons_succ]
    -- 17: t- := store 9 t37 t36 : 0 (BARRIER)
    refine wpB_bar (i := 17) (by kernel_rfl) (get_of_drop rfl) (by kernel_rfl) (fun K hK => ?_)
    go_simp
    refine hK.out _ _ (fun _ : World => True) ?_
    clear hHeld hK K
    have hHeld := trivial
    try simp only [Act.put, List.setIfInBounds_toArray, List.set_cons_zero, List.set_cons_succ]
    refine wpB_done (by kernel_rfl) ?_ _
    clear hHeld hM hc0 hc1 fx cx hcut
    obtain ⟨w7, hw7⟩ : ∃ w7, w7 = (w6.setCell ⟨w4.heap.size, 4, none⟩ (.string t)).drew := ⟨_, rfl⟩
    rw [← hw7]
    have C7 := hid (show Chg (fun k => k = w4.heap.size) w6 w7 by rw [hw7]; exact (chg_at _ 4 _ w6).drew)
    have BX7 := hid (show w7.heap[w4.heap.size]? = some (.cells (ruleCells (mkRule [u1, u2, u3, u4] (bts t))).toArray 100 (0, 0)) by rw [hw7]; exact blk_set BX.out 4 (.string t))
    have BT7 := hid (C7.out.blk BT.out hwz)
    have HR7 := hid (HR.out.chg C7.out (fun k hk => by subst hk; have := H.out.low; have := HG.out; omega) hg4)
    obtain ⟨d0', d1', d2'⟩ := HR7.out.cells
    have fg : w7.frozen? ⟨g, 1, none⟩ = false := freeAt HR7.out.blk 1
    clear hw7 x0 x1 x2 x3 x4 y0 y1 y2 y3 y4 f0 f1 f2 f3 f4 d0 d1 d2
    have x0 : w7.cell? ⟨w4.heap.size, 0, none⟩ = _ := cellAt BX7.out 0
    have y0 : w7.cell? ⟨w.heap.size, 0, none⟩ = _ := cellAt BT7.out 0
    have f0 : w7.frozen? ⟨w.heap.size, 0, none⟩ = false := freeAt BT7.out 0
    have x1 : w7.cell? ⟨w4.heap.size, 1, none⟩ = _ := cellAt BX7.out 1
    have y1 : w7.cell? ⟨w.heap.size, 1, none⟩ = _ := cellAt BT7.out 1
    have f1 : w7.frozen? ⟨w.heap.size, 1, none⟩ = false := freeAt BT7.out 1
    have x2 : w7.cell? ⟨w4.heap.size, 2, none⟩ = _ := cellAt BX7.out 2
    have y2 : w7.cell? ⟨w.heap.size, 2, none⟩ = _ := cellAt BT7.out 2
    have f2 : w7.frozen? ⟨w.heap.size, 2, none⟩ = false := freeAt BT7.out 2
    have x3 : w7.cell? ⟨w4.heap.size, 3, none⟩ = _ := cellAt BX7.out 3
    have y3 : w7.cell? ⟨w.heap.size, 3, none⟩ = _ := cellAt BT7.out 3
    have f3 : w7.frozen? ⟨w.heap.size, 3, none⟩ = false := freeAt BT7.out 3
    have x4 : w7.cell? ⟨w4.heap.size, 4, none⟩ = _ := cellAt BX7.out 4
    have y4 : w7.cell? ⟨w.heap.size, 4, none⟩ = _ := cellAt BT7.out 4
    have f4 : w7.frozen? ⟨w.heap.size, 4, none⟩ = false := freeAt BT7.out 4
    simp only [ruleCells, mkRule, Rule.nums, ints, List.map_cons, List.map_nil, List.cons_append, List.nil_append, List.getElem?_toArray, List.getElem?_cons_zero, List.getElem?_cons_succ, bstr_bts] at x0 x1 x2 x3 x4 y0 y1 y2 y3 y4
    go_wp2_with fail
    obtain ⟨w8, hw8⟩ : ∃ w8, w8 = w7.setCell ⟨g, 1, none⟩ (.int .i64 ((at6 : Int) + (q : Int))) := ⟨_, rfl⟩
    rw [← hw8]
    have HR8 := hid (show Rf w8 B g A n c b (at6 + q) false by rw [hw8]; exact HR7.out.setAt (q := at6 + q) hqle)
    have C8 := hid (show Chg (fun k => k = g) w7 w8 by rw [hw8]; exact chg_at g 1 _ w7)
    have BT8 := hid (C8.out.blk BT7.out (fun e => hgw e.symm))
    clear hw8
    have CZ8 := hid (show Chg (fun k => k = g) w4 w8 from ((CZ.out.trans C7.out (fun k hk hl => by subst hk; exact absurd hl (Nat.lt_irrefl _))).trans C8.out (fun _ h _ => h)))
    have HRF := hid (fun W (PC' : Chg (fun k => k = w.heap.size) w8 W) => (show RfTo B g A n c b at_ bad rdRule W (mkRule [u1, u2, u3, u4] (bts t)) from ⟨at6 + q, false, HR8.out.chg PC' (fun k hk => by subst hk; exact Nat.le_trans H.out.low (Nat.le_of_lt HG.out)) hgw, thenRd_eq mkRule E4.out (by
      have q1 := rdText_of E6.out
      rw [q1, HTT.out, bts_bstr, left_some, left_some, Option.map_some, Option.map_some, List.drop_drop])⟩))
    obtain ⟨PB, PC⟩ := put_blk (ruleCells (mkRule [u1, u2, u3, u4] (bts (t)))) w8 _ BT8.out rfl
    generalize hW : (((((w8.setCell ⟨w.heap.size, 0, none⟩ (.int .i64 u1)).setCell ⟨w.heap.size, 1, none⟩ (.int .i64 u2)).setCell ⟨w.heap.size, 2, none⟩ (.int .i64 u3)).setCell ⟨w.heap.size, 3, none⟩ (.int .i64 u4)).setCell ⟨w.heap.size, 4, none⟩ (.string t)) = W
    have PB' : W.heap[w.heap.size]? = some (.cells (ruleCells (mkRule [u1, u2, u3, u4] (bts (t)))).toArray 100 (0, 0)) := by rw [← hW]; exact PB
    have PC' : Chg (fun k => k = w.heap.size) w8 W := by rw [← hW]; exact PC
    clear PB PC hW x0 y0 f0 x1 y1 f1 x2 y2 f2 x3 y3 f3 x4 y4 f4 d0' d1' d2' fg
    have z0 : W.cell? ⟨w.heap.size, 0, none⟩ = some (.int .i64 u1) := by rw [cellAt PB']; rfl
    have z1 : W.cell? ⟨w.heap.size, 1, none⟩ = some (.int .i64 u2) := by rw [cellAt PB']; rfl
    have z2 : W.cell? ⟨w.heap.size, 2, none⟩ = some (.int .i64 u3) := by rw [cellAt PB']; rfl
    have z3 : W.cell? ⟨w.heap.size, 3, none⟩ = some (.int .i64 u4) := by rw [cellAt PB']; rfl
    have z4 : W.cell? ⟨w.heap.size, 4, none⟩ = some (.string t) := by rw [cellAt PB']; rfl
    refine bodyPost_ret (v := .agg #[.int .i64 u1, .int .i64 u2, .int .i64 u3, .int .i64 u4, .string t]) (by simp [results, Try.results73, go_sem, z0, z1, z2, z3, z4]) rfl ?_
    refine ⟨mkRule [u1, u2, u3, u4] (bts (t)), ⟨?_, HSZ.out⟩, rfl, ?_, HRF.out W PC'⟩
    · intro u hu
      simp [mkRule, Rule.nums] at hu
      rcases hu with rfl | rfl | rfl | rfl
      · exact W1.out
      · exact W2.out
      · exact W3.out
      · exact W4.out
    · exact (((C0.out.mono (S' := fun k => k = g) (fun _ h _ => h.elim)).trans C4.out (fun _ h _ => h)).trans CZ8.out (fun _ h _ => h)).trans (PC'.mono (S' := fun k => k = w.heap.size) (fun _ h _ => h)) (fun k hk hl => by subst hk; exact absurd hl (Nat.lt_irrefl _))
end Go.Proofs.Ytcmfgijdelaelaa.Pa
