
/- What the statements make of entries. -/

import Derived.Test.YtcmfgijdelaelaaPackMa

namespace Go.Proofs.Ytcmfgijdelaelaa.Pa

set_option linter.unusedVariables false

set_option linter.unusedSimpArgs false

open Go.RowKit Go.Proofs.Ytcmfgijdelaelaa.C

attribute [local go_sem] max2_int min2_int max_two min_two

def MadeEntries (R : Nat → Prop) (xs : List Entry) (w : World) (e' : Ending) (w' : World) : Prop :=
  ∃ A' c', e' = .returned (.slice A' xs.length c') ∧ Ty.At entryK w' (fun k => (R k ∧ k < w.heap.size) ∨ w.heap.size ≤ k) A' xs.length c' xs ∧ Chg (fun _ => False) w w'
set_option maxHeartbeats 4000000 in
set_option maxRecDepth 100000 in
theorem entries_any {w : World} {R : Nat → Prop} {xs : List Entry} {A : Option Addr} {n c : Nat} (hl : Ty.At entryK w R A n c xs) (hn : n ≤ 1000000) (hput : ∀ e ∈ xs, e.put.length ≤ 1000000) :
    Calls Try.prog 30 #[.slice A n c] w (MadeEntries R xs w) := by
  have HL := hid hl.bound
  have L1 := hid hl.1
  have HPUT := hid hput
  have hn2 : (n : Int) ≤ 1000000 := by omega
  clear hl hput
  go_enter Try.func30, Try.ntmps30
  go_wp2_with fail
  go_loopw [3, 8] (fun sl i wr => ∃ (k : Nat) (A' : Option Addr) (c' : Nat), k ≤ n ∧ i = .int .i64 k ∧ sl = .slice A' k c' ∧ Vec entryK 70 wr (fun k => w.heap.size ≤ k) (fun k => (R k ∧ k < w.heap.size) ∨ w.heap.size ≤ k) (.slice A' k c') (xs.take k) ∧ Chg (fun _ => False) w wr) (fun _ i _ => n - (intOf i).toNat)
  case atStart => exact ⟨0, none, 0, Nat.zero_le _, rfl, rfl, Vec.nil _ _ _ _ _, Chg.refl _ _⟩
  case round =>
    obtain ⟨k, A', c', hk, rfl, rfl, hV, hC⟩ := hrel
    have HV := hid hV
    have HC := hid hC
    clear hV hC
    by_cases hlt : k < n
    · have hlt2 : (k : Int) < (n : Int) := by omega
      obtain ⟨r, hr⟩ : ∃ r, xs[k]? = some r := ⟨_, List.getElem?_eq_getElem (by have := L1.out; omega)⟩
      have hpl := HPUT.out r (List.mem_of_getElem? hr)
      obtain ⟨a, cs, ha, haR, hK, hcs⟩ := HL.out.get (by decide) hr
      obtain ⟨E1, m1, d1, E2, m2, d2, rfl, hrw⟩ := entry_open (id hK)
      subst ha
      have hcs2 : ∀ j u, (entryCells r E1 m1 d1 E2 m2 d2)[j]? = some u → wr.cell? (a.add (k * 9 + j)) = some u := fun j u hj => HC.out.cell (hcs j u hj) (fun h => h)
      have x0 := elem_cell0 hcs2 _ rfl
      have x1 := elem_cell hcs2 0 _ rfl
      have x2 := elem_cell hcs2 1 _ rfl
      have x3 := elem_cell hcs2 2 _ rfl
      have x4 := elem_cell hcs2 3 _ rfl
      have x5 := elem_cell hcs2 4 _ rfl
      have x6 := elem_cell hcs2 5 _ rfl
      have x7 := elem_cell hcs2 6 _ rfl
      have x8 := elem_cell hcs2 7 _ rfl
      have HRW := hid (hrw.chg HC.out (fun _ _ h => h))
      have HTK := hid (show xs.take (k + 1) = xs.take k ++ [r] by rw [List.take_add_one, hr]; rfl)
      have HKL := hid (show (xs.take k).length = k by rw [List.length_take]; have := L1.out; omega)
      have hm1 : m1 ≤ 1000000 := by have := hrw.2.1.1; omega
      have hm1e : m1 = r.put.length := hrw.2.1.1
      obtain ⟨W1, hW1⟩ : ∃ W1, W1 = wr.alloc (.cells #[.int .i64 r.view, .int .i64 r.client, .int .i64 r.request, .int .i64 r.dflt, .int .i64 r.closed, .int .i64 r.fuel, .int .i64 r.stack, .slice E1 m1 d1, .slice E2 m2 d2] 65) := ⟨_, rfl⟩
      have C1 := hid (show Chg (fun _ => False) wr W1 by rw [hW1]; exact (Chg.refl _ wr).alloc _)
      have B1 := hid (show W1.heap[wr.heap.size]? = some (.cells #[.int .i64 r.view, .int .i64 r.client, .int .i64 r.request, .int .i64 r.dflt, .int .i64 r.closed, .int .i64 r.fuel, .int .i64 r.stack, .slice E1 m1 d1, .slice E2 m2 d2] 65 (0, 0)) by rw [hW1]; exact blk_new wr _)
      obtain ⟨M, hMM⟩ : ∃ M : Nat → Prop, ∀ i, M i ↔ (Value.slice A' k c').ownBlock = some i := ⟨_, fun _ => Iff.rfl⟩
      have MM := hid hMM
      have HNM := hid (show ¬ M wr.heap.size from fun h => Nat.lt_irrefl _ (HV.out.lt _ ((MM.out _).1 h)))
      have y0 : ∀ wx, Chg M W1 wx → wx.cell? ⟨wr.heap.size, 0, none⟩ = some (.int .i64 r.view) := fun wx hx => hx.cell (by rw [cellAt B1.out]; rfl) HNM.out
      have y1 : ∀ wx, Chg M W1 wx → wx.cell? ⟨wr.heap.size, 1, none⟩ = some (.int .i64 r.client) := fun wx hx => hx.cell (by rw [cellAt B1.out]; rfl) HNM.out
      have y2 : ∀ wx, Chg M W1 wx → wx.cell? ⟨wr.heap.size, 2, none⟩ = some (.int .i64 r.request) := fun wx hx => hx.cell (by rw [cellAt B1.out]; rfl) HNM.out
      have y3 : ∀ wx, Chg M W1 wx → wx.cell? ⟨wr.heap.size, 3, none⟩ = some (.int .i64 r.dflt) := fun wx hx => hx.cell (by rw [cellAt B1.out]; rfl) HNM.out
      have y4 : ∀ wx, Chg M W1 wx → wx.cell? ⟨wr.heap.size, 4, none⟩ = some (.int .i64 r.closed) := fun wx hx => hx.cell (by rw [cellAt B1.out]; rfl) HNM.out
      have y5 : ∀ wx, Chg M W1 wx → wx.cell? ⟨wr.heap.size, 5, none⟩ = some (.int .i64 r.fuel) := fun wx hx => hx.cell (by rw [cellAt B1.out]; rfl) HNM.out
      have y6 : ∀ wx, Chg M W1 wx → wx.cell? ⟨wr.heap.size, 6, none⟩ = some (.int .i64 r.stack) := fun wx hx => hx.cell (by rw [cellAt B1.out]; rfl) HNM.out
      have y7 : ∀ wx, Chg M W1 wx → wx.cell? ⟨wr.heap.size, 7, none⟩ = some (.slice E1 m1 d1) := fun wx hx => hx.cell (by rw [cellAt B1.out]; rfl) HNM.out
      have y8 : ∀ wx, Chg M W1 wx → wx.cell? ⟨wr.heap.size, 8, none⟩ = some (.slice E2 m2 d2) := fun wx hx => hx.cell (by rw [cellAt B1.out]; rfl) HNM.out
      clear hcs hK hcs2 hr haR hrw hMM hm1e
      have HM1E := hid (show m1 = r.put.length from HRW.out.2.1.1)
      go_wp2_with fail
      rw [← hW1]
      clear hW1 x0 x1 x2 x3 x4 x5 x6 x7 x8
      refine wpB_start (fun wx : World => Chg M W1 wx) (by kernel_rfl) ?_
      have hHeld : (fun wx : World => Chg M W1 wx) _ := (by first | assumption | exact Chg.drew (Chg.refl _ _) | (show _ ∧ _; refine ⟨?_, ?_⟩ <;> assumption) | (first | assumption | exact hHeld.alloc _ | exact hHeld.trans HZ.out (fun _ h _ => h.elim) | exact hHeld.trans h2 (fun _ h _ => (MM.out _).2 h)))
      -- 0: t12 := move t3 : 28
      refine wpB_take (i := 0) (v := ?_) (get_of_drop rfl) (by kernel_rfl) (by kernel_rfl) (by kernel_rfl) (by kernel_rfl) (fun _ _ _ h => h) (Or.inl ⟨by rfl, ?_⟩) hHeld ?_
      rotate_left
      · (intro w hSw; (try dsimp only at hSw); go_simp <;> with_reducible rfl)
      try simp only [Act.put, List.setIfInBounds_toArray, List.set_cons_zero, List.set_cons_succ]
      -- 1: t13 := fieldAddr 65 t5 0 : 0
      refine wpB_take (i := 1) (v := ?_) (get_of_drop rfl) (by kernel_rfl) (by kernel_rfl) (by kernel_rfl) (by kernel_rfl) (fun _ _ _ h => h) (Or.inl ⟨by rfl, ?_⟩) hHeld ?_
      rotate_left
      · (intro w hSw; (try dsimp only at hSw); go_simp <;> with_reducible rfl)
      try simp only [Act.put, List.setIfInBounds_toArray, List.set_cons_zero, List.set_cons_succ]
      -- 2: t14 := load 3 t13 : 3
      refine wpB_take (i := 2) (v := ?_) (get_of_drop rfl) (by kernel_rfl) (by kernel_rfl) (by kernel_rfl) (by kernel_rfl) (fun _ _ _ h => h) (Or.inl ⟨by rfl, ?_⟩) hHeld ?_
      rotate_left
      · (intro w hSw; (try dsimp only at hSw); go_simp <;> with_reducible rfl)
      try simp only [Act.put, List.setIfInBounds_toArray, List.set_cons_zero, List.set_cons_succ]
      -- 3: t15 := fieldAddr 65 t5 1 : 0
      refine wpB_take (i := 3) (v := ?_) (get_of_drop rfl) (by kernel_rfl) (by kernel_rfl) (by kernel_rfl) (by kernel_rfl) (fun _ _ _ h => h) (Or.inl ⟨by rfl, ?_⟩) hHeld ?_
      rotate_left
      · (intro w hSw; (try dsimp only at hSw); go_simp <;> with_reducible rfl)
      try simp only [Act.put, List.setIfInBounds_toArray, List.set_cons_zero, List.set_cons_succ]
      -- 4: t16 := load 3 t15 : 3
      refine wpB_take (i := 4) (v := ?_) (get_of_drop rfl) (by kernel_rfl) (by kernel_rfl) (by kernel_rfl) (by kernel_rfl) (fun _ _ _ h => h) (Or.inl ⟨by rfl, ?_⟩) hHeld ?_
      rotate_left
      · (intro w hSw; (try dsimp only at hSw); go_simp <;> with_reducible rfl)
      try simp only [Act.put, List.setIfInBounds_toArray, List.set_cons_zero, List.set_cons_succ]
      -- 5: t17 := fieldAddr 65 t5 2 : 0
      refine wpB_take (i := 5) (v := ?_) (get_of_drop rfl) (by kernel_rfl) (by kernel_rfl) (by kernel_rfl) (by kernel_rfl) (fun _ _ _ h => h) (Or.inl ⟨by rfl, ?_⟩) hHeld ?_
      rotate_left
      · (intro w hSw; (try dsimp only at hSw); go_simp <;> with_reducible rfl)
      try simp only [Act.put, List.setIfInBounds_toArray, List.set_cons_zero, List.set_cons_succ]
      -- 6: t18 := load 3 t17 : 3
      refine wpB_take (i := 6) (v := ?_) (get_of_drop rfl) (by kernel_rfl) (by kernel_rfl) (by kernel_rfl) (by kernel_rfl) (fun _ _ _ h => h) (Or.inl ⟨by rfl, ?_⟩) hHeld ?_
      rotate_left
      · (intro w hSw; (try dsimp only at hSw); go_simp <;> with_reducible rfl)
      try simp only [Act.put, List.setIfInBounds_toArray, List.set_cons_zero, List.set_cons_succ]
      -- 7: t19 := fieldAddr 65 t5 3 : 0
      refine wpB_take (i := 7) (v := ?_) (get_of_drop rfl) (by kernel_rfl) (by kernel_rfl) (by kernel_rfl) (by kernel_rfl) (fun _ _ _ h => h) (Or.inl ⟨by rfl, ?_⟩) hHeld ?_
      rotate_left
      · (intro w hSw; (try dsimp only at hSw); go_simp <;> with_reducible rfl)
      try simp only [Act.put, List.setIfInBounds_toArray, List.set_cons_zero, List.set_cons_succ]
      -- 8: t20 := load 63 t19 : 63
      refine wpB_take (i := 8) (v := ?_) (get_of_drop rfl) (by kernel_rfl) (by kernel_rfl) (by kernel_rfl) (by kernel_rfl) (fun _ _ _ h => h) (Or.inl ⟨by rfl, ?_⟩) hHeld ?_
      rotate_left
      · (intro w hSw; (try dsimp only at hSw); go_simp <;> with_reducible rfl)
      try simp only [Act.put, List.setIfInBounds_toArray, List.set_cons_zero, List.set_cons_succ]
      -- 9: t21 := CALL fn48(t20) : 68
      refine wpB_act (i := 9) (by kernel_rfl) (get_of_drop rfl) (fun K hK => ?_)
      go_simp
      refine (delta_any (e := r) ((HRW.out.chg C1.out (fun _ _ h => h)).chg (Chg.refl (fun _ => False) W1).drew (fun _ _ h => h)) hm1).mono ?_
      rintro e' wy ⟨B1', b1, rfl, hat, hcy⟩
      have HZ := hid hcy
      have HAT := hid hat.bound
      have CY := hid (show Chg (fun _ => False) W1 wy from (Chg.refl (fun _ => False) W1).drew.trans hcy (fun _ h _ => h))
      have MADEROW := hid (show ∀ w', Chg (fun _ => False) wy w' → Ty.Row entryK w' (fun k' => ((R k' ∧ k' < w.heap.size) ∨ w.heap.size ≤ k') ∧ (Value.slice A' k c').ownBlock ≠ some k' ∧ k' < w'.heap.size) [r] (Array.toList #[.int .i64 r.view, .int .i64 r.client, .int .i64 r.request, .int .i64 r.dflt, .int .i64 r.closed, .int .i64 r.fuel, .int .i64 r.stack, .slice B1' r.put.length b1, .slice E2 m2 d2]) from fun w' hc => Ty.Row.one_ (entry_shut (A1 := B1') (n1 := r.put.length) (c1 := b1) ⟨HRW.out.1, (HAT.out.chg hc (fun _ _ h => h)).mono (fun j hj => ⟨.inr (Nat.le_trans (Nat.le_trans HC.out.size C1.out.size) hj.1), fun e' => Nat.lt_irrefl _ (Nat.lt_of_lt_of_le (HV.out.lt j e') (Nat.le_trans C1.out.size hj.1)), Nat.lt_of_lt_of_le hj.2 hc.size⟩), (((HRW.out.2.2.bound.chg C1.out (fun _ _ h => h)).chg CY.out (fun _ _ h => h)).chg hc (fun _ _ h => h)).mono (fun j hj => ⟨.inl hj.1, fun e' => by have q1 := HV.out.inS j e'; have q2 := hj.1.2; omega, Nat.lt_of_lt_of_le hj.2 (Nat.le_trans (Nat.le_trans C1.out.size CY.out.size) hc.size)⟩)⟩))
      clear hcy hat
      refine hK.out _ _ ?_ (fun hHeld2 => ?_)
      · (first | assumption | exact hHeld.alloc _ | exact hHeld.trans HZ.out (fun _ h _ => h.elim) | exact hHeld.trans h2 (fun _ h _ => (MM.out _).2 h))
      clear hHeld hK K
      have hHeld := hHeld2
      clear hHeld2
      try simp only [Act.put, List.setIfInBounds_toArray, List.set_cons_zero, List.set_cons_succ]
      -- 10: t22 := build 70 [⟨0, t14⟩, ⟨1, t16⟩, ⟨2, t18⟩, ⟨3, t21⟩] : 70
      refine wpB_take (i := 10) (v := ?_) (get_of_drop rfl) (by kernel_rfl) (by kernel_rfl) (by kernel_rfl) (by kernel_rfl) (fun _ _ _ h => h) (Or.inl ⟨by rfl, ?_⟩) hHeld ?_
      rotate_left
      · (intro w hSw; (try dsimp only at hSw); go_simp <;> with_reducible rfl)
      try simp only [Act.put, List.setIfInBounds_toArray, List.set_cons_zero, List.set_cons_succ]
      -- 11: t23 := buildSlice 28 1 [⟨0, t22⟩] : 28
      refine wpB_act (i := 11) (by kernel_rfl) (get_of_drop rfl) (fun K hK => ?_)
      go_simp
      refine hK.out _ _ ?_ (fun hHeld2 => ?_)
      · (first | assumption | exact hHeld.alloc _ | exact hHeld.trans HZ.out (fun _ h _ => h.elim) | exact hHeld.trans h2 (fun _ h _ => (MM.out _).2 h))
      clear hHeld hK K
      have hHeld := hHeld2
      clear hHeld2
      try simp only [Act.put, List.setIfInBounds_toArray, List.set_cons_zero, List.set_cons_succ]
      -- 12: t24 := append(t12, t23) types [28, 28] : 28
      refine wpB_act (i := 12) (by kernel_rfl) (get_of_drop rfl) (fun K hK => ?_)
      refine vec_step (d := entryK) _ rfl (.tmp 12) (.tmp 23) 28 70 (.agg #[.int .i64 0, .int .i64 0, .int .i64 0, .int .i64 0, .int .i64 0, .int .i64 0, .int .i64 0, .slice none 0 0, .slice none 0 0]) 104 rfl Try.underlying28 infoEntry2 rfl (by decide) (by decide) (.slice A' k c') rfl (((HV.out.chg C1.out (fun _ _ h => h) (fun _ _ _ _ h => h)).chg CY.out (fun _ _ h => h) (fun _ _ _ _ h => h)).chg ((Chg.refl (fun _ => False) wy).alloc (.cells #[.int .i64 r.view, .int .i64 r.client, .int .i64 r.request, .int .i64 r.dflt, .int .i64 r.closed, .int .i64 r.fuel, .int .i64 r.stack, .slice B1' r.put.length b1, .slice E2 m2 d2] 70)) (fun _ _ h => h) (fun _ _ _ _ h => h)) (some ⟨wy.heap.size, 0, none⟩) 1 1 (ys := [r]) rfl (by simp) (by omega) rfl (new_sees wy #[.int .i64 r.view, .int .i64 r.client, .int .i64 r.request, .int .i64 r.dflt, .int .i64 r.closed, .int .i64 r.fuel, .int .i64 r.stack, .slice B1' r.put.length b1, .slice E2 m2 d2] 70) (MADEROW.out _ ((Chg.refl (fun _ => False) wy).alloc (.cells #[.int .i64 r.view, .int .i64 r.client, .int .i64 r.request, .int .i64 r.dflt, .int .i64 r.closed, .int .i64 r.fuel, .int .i64 r.stack, .slice B1' r.put.length b1, .slice E2 m2 d2] 70))) (by rw [HKL.out]; omega) ?_
      have HH := hid hHeld
      rw [HKL.out, ← HTK.out]
      intro A4 c4 w4 h1 h2
      refine hK.out _ _ ?_ (fun hHeld2 => ?_)
      · (first | assumption | exact hHeld.alloc _ | exact hHeld.trans HZ.out (fun _ h _ => h.elim) | exact hHeld.trans h2 (fun _ h _ => (MM.out _).2 h))
      clear hHeld hK K
      have hHeld := hHeld2
      clear hHeld2
      try simp only [Act.put, List.setIfInBounds_toArray, List.set_cons_zero, List.set_cons_succ]
      -- 13: t3 := assign t24 : 28
      refine wpB_take (i := 13) (v := ?_) (get_of_drop rfl) (by kernel_rfl) (by kernel_rfl) (by kernel_rfl) (by kernel_rfl) (fun _ _ _ h => h) (Or.inl ⟨by rfl, ?_⟩) hHeld ?_
      rotate_left
      · (intro w hSw; (try dsimp only at hSw); go_simp <;> with_reducible rfl)
      try simp only [Act.put, List.setIfInBounds_toArray, List.set_cons_zero, List.set_cons_succ]
      refine wpB_done (by kernel_rfl) ?_ _
      have HVN := hid (h1.mono (S' := fun k => w.heap.size ≤ k) (D' := fun k => (R k ∧ k < w.heap.size) ∨ w.heap.size ≤ k) (fun j h _ => by rcases h with h | h; exact h; exact Nat.le_trans (Nat.le_trans (Nat.le_trans HC.out.size C1.out.size) CY.out.size) (Nat.le_trans ((Chg.refl (fun _ => False) wy).alloc _).size h)) (fun _ h _ => h))
      have HCN := hid (show Chg (fun _ => False) w w4 from ((((HC.out.trans C1.out (fun _ h _ => h)).trans CY.out (fun _ h _ => h)).alloc _).trans h2 (fun j hj hl => by have := HV.out.inS j hj; omega)))
      clear h1 h2 hHeld y0 y1 y2 y3 y4 y5 y6 y7 y8
      go_wp2_with fail
      go_roundw
      case measure => simp [intOf]; omega
      case rel => first | exact ⟨k + 1, A4, c4, hlt, by go_num, rfl, HVN.out, HCN.out⟩ | ((repeat apply Exists.intro); exact ⟨⟨k + 1, A4, c4, hlt, by go_num, rfl, HVN.out, HCN.out⟩, rfl⟩)
    · have hkn : ¬ (k : Int) < (n : Int) := by omega
      obtain rfl : k = n := by omega
      go_wp2_with fail
      go_ret
      have hv := HV.out
      rw [List.take_of_length_le (by have := L1.out; omega)] at hv
      have l1 := L1.out
      refine ⟨A', c', by rw [← l1]; rfl, ?_, HC.out⟩
      rw [← l1]
      exact hv.at.mono (fun k hk => by rcases hk with hk | hk; exact .inr hk; exact hk)
end Go.Proofs.Ytcmfgijdelaelaa.Pa
