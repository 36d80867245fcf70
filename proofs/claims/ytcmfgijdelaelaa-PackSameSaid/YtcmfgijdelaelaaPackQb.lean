
/- The contracts of the document's entry and log that write. -/

import Derived.Test.YtcmfgijdelaelaaPackQ

import Derived.Test.YtcmfgijdelaelaaPackE

namespace Go.Proofs.Ytcmfgijdelaelaa.Pa

set_option linter.unusedVariables false

set_option linter.unusedSimpArgs false

open Go.RowKit Go.Proofs.Ytcmfgijdelaelaa.C

attribute [local go_sem] max2_int min2_int max_two min_two

set_option maxHeartbeats 4000000 in
set_option maxRecDepth 100000 in
theorem refentry_any {w : World} {S R : Nat → Prop} {v : Value} {x : List UInt8} {e : Entry} {A1 : Option Addr} {n1 c1 : Nat} {A2 : Option Addr} {n2 c2 : Nat} (h : Byt w S v x) (he : EntryAt w R e A1 n1 c1 A2 n2 c2) (hR : ∀ k, R k → ¬ S k) (hok : EntryOk e) (hx : x.length ≤ 500000000) :
    Calls Try.prog 60 #[v, .agg (entryCells e A1 n1 c1 A2 n2 c2).toArray] w fun e' w' => ∃ v', e' = .returned v' ∧ ByTo S (x ++ entryB e) w w' v' := by
  show Calls Try.prog _ #[v, .agg #[.int .i64 e.view, .int .i64 e.client, .int .i64 e.request, .int .i64 e.dflt, .int .i64 e.closed, .int .i64 e.fuel, .int .i64 e.stack, .slice A1 n1 c1, .slice A2 n2 c2]] w _
  obtain ⟨w0, hw0⟩ : ∃ w0, w0 = (w.alloc (.cells #[.int .i64 e.view, .int .i64 e.client, .int .i64 e.request, .int .i64 e.dflt, .int .i64 e.closed, .int .i64 e.fuel, .int .i64 e.stack, .slice A1 n1 c1, .slice A2 n2 c2] 70)).alloc (.cells #[.int .i64 e.dflt, .int .i64 e.closed, .int .i64 e.fuel, .int .i64 e.stack, .slice A1 n1 c1, .slice A2 n2 c2] 68) := ⟨_, rfl⟩
  have CB := hid (show Chg (fun _ => False) w w0 by rw [hw0]; exact ((Chg.refl _ w).alloc _).alloc _)
  have B1 := hid (show w0.heap[w.heap.size]? = some (.cells #[.int .i64 e.view, .int .i64 e.client, .int .i64 e.request, .int .i64 e.dflt, .int .i64 e.closed, .int .i64 e.fuel, .int .i64 e.stack, .slice A1 n1 c1, .slice A2 n2 c2] 70 (0, 0)) by rw [hw0]; exact blk_alloc (blk_new w _) _)
  have B2 := hid (show w0.heap[w.heap.size + 1]? = some (.cells #[.int .i64 e.dflt, .int .i64 e.closed, .int .i64 e.fuel, .int .i64 e.stack, .slice A1 n1 c1, .slice A2 n2 c2] 68 (0, 0)) by
    rw [hw0]
    have := blk_new (w.alloc (.cells #[.int .i64 e.view, .int .i64 e.client, .int .i64 e.request, .int .i64 e.dflt, .int .i64 e.closed, .int .i64 e.fuel, .int .i64 e.stack, .slice A1 n1 c1, .slice A2 n2 c2] 70)) (.cells #[.int .i64 e.dflt, .int .i64 e.closed, .int .i64 e.fuel, .int .i64 e.stack, .slice A1 n1 c1, .slice A2 n2 c2] 68)
    simpa using this)
  have BL := hid (show w.heap.size + 1 < w0.heap.size from lt_of_blk B2.out)
  have L1 := hid he.2.1.1
  have L2 := hid he.2.2.1
  have HQ1 := hid (he.2.1.bound.chg CB.out (fun _ _ h => h))
  have HQ2 := hid (he.2.2.bound.chg CB.out (fun _ _ h => h))
  have HR := hid hR
  have HOK := hid hok
  have hm1 : n1 ≤ 100 := by have := hok.putl; have := L1.out; omega
  have hm2 : n2 ≤ 100 := by have := hok.dropl; have := L2.out; omega
  have hm1' : (n1 : Int) ≤ 100 := by omega
  have hm2' : (n2 : Int) ≤ 100 := by omega
  have K := hid (ByTo.refl (h.bound.chg CB.out (fun _ _ h => h)))
  have a0 := hid (K.out.drew)
  clear h he hR hok K
  have hnb : ∀ k, k < w0.heap.size → ¬ k < w.heap.size → ¬ (S k ∧ k < w.heap.size) := fun k _ h1 h2 => h1 h2.2
  have x0 : ∀ wx, Chg (fun k => S k ∧ k < w.heap.size) w0 wx → wx.cell? ⟨w.heap.size, 0, none⟩ = some (.int .i64 e.view) := fun wx hx => hx.cell (by rw [cellAt B1.out]; rfl) (fun h => Nat.lt_irrefl _ h.2)
  have x1 : ∀ wx, Chg (fun k => S k ∧ k < w.heap.size) w0 wx → wx.cell? ⟨w.heap.size, 1, none⟩ = some (.int .i64 e.client) := fun wx hx => hx.cell (by rw [cellAt B1.out]; rfl) (fun h => Nat.lt_irrefl _ h.2)
  have x2 : ∀ wx, Chg (fun k => S k ∧ k < w.heap.size) w0 wx → wx.cell? ⟨w.heap.size, 2, none⟩ = some (.int .i64 e.request) := fun wx hx => hx.cell (by rw [cellAt B1.out]; rfl) (fun h => Nat.lt_irrefl _ h.2)
  have y0 : ∀ wx, Chg (fun k => S k ∧ k < w.heap.size) w0 wx → wx.cell? ⟨w.heap.size + 1, 0, none⟩ = some (.int .i64 e.dflt) := fun wx hx => hx.cell (by rw [cellAt B2.out]; rfl) (fun h => by have h2 : w.heap.size + 1 < w.heap.size := h.2; omega)
  have y1 : ∀ wx, Chg (fun k => S k ∧ k < w.heap.size) w0 wx → wx.cell? ⟨w.heap.size + 1, 1, none⟩ = some (.int .i64 e.closed) := fun wx hx => hx.cell (by rw [cellAt B2.out]; rfl) (fun h => by have h2 : w.heap.size + 1 < w.heap.size := h.2; omega)
  have y2 : ∀ wx, Chg (fun k => S k ∧ k < w.heap.size) w0 wx → wx.cell? ⟨w.heap.size + 1, 2, none⟩ = some (.int .i64 e.fuel) := fun wx hx => hx.cell (by rw [cellAt B2.out]; rfl) (fun h => by have h2 : w.heap.size + 1 < w.heap.size := h.2; omega)
  have y3 : ∀ wx, Chg (fun k => S k ∧ k < w.heap.size) w0 wx → wx.cell? ⟨w.heap.size + 1, 3, none⟩ = some (.int .i64 e.stack) := fun wx hx => hx.cell (by rw [cellAt B2.out]; rfl) (fun h => by have h2 : w.heap.size + 1 < w.heap.size := h.2; omega)
  have y4 : ∀ wx, Chg (fun k => S k ∧ k < w.heap.size) w0 wx → wx.cell? ⟨w.heap.size + 1, 4, none⟩ = some (.slice A1 n1 c1) := fun wx hx => hx.cell (by rw [cellAt B2.out]; rfl) (fun h => by have h2 : w.heap.size + 1 < w.heap.size := h.2; omega)
  have y5 : ∀ wx, Chg (fun k => S k ∧ k < w.heap.size) w0 wx → wx.cell? ⟨w.heap.size + 1, 5, none⟩ = some (.slice A2 n2 c2) := fun wx hx => hx.cell (by rw [cellAt B2.out]; rfl) (fun h => by have h2 : w.heap.size + 1 < w.heap.size := h.2; omega)
  have Y4 := hid y4
  have Y5 := hid y5
  clear hnb
  go_enter Try.func60, Try.ntmps60
  go_wp2_with fail
  rw [← hw0]
  clear hw0
  refine wpB_start (fun wx : World => Chg (fun k => S k ∧ k < w.heap.size) w0 wx) (by kernel_rfl) ?_
  have hHeld : (fun wx : World => Chg (fun k => S k ∧ k < w.heap.size) w0 wx) _ := (by first | assumption | exact Chg.drew (Chg.refl _ _) | (show _ ∧ _; refine ⟨?_, ?_⟩ <;> assumption) | first | assumption | exact a5.out.chg | exact a4.out.chg | exact a3.out.chg | exact a2.out.chg | exact a1.out.chg | exact a0.out.chg)
  -- 0: t11 := move t0 : 25
  refine wpB_take (i := 0) (v := ?_) (get_of_drop rfl) (by kernel_rfl) (by kernel_rfl) (by kernel_rfl) (by kernel_rfl) (fun _ _ _ h => h) (Or.inl ⟨by rfl, ?_⟩) hHeld ?_
  rotate_left
  · (intro w hSw; (try dsimp only at hSw); go_simp <;> with_reducible rfl)
  try simp only [Act.put, List.setIfInBounds_toArray, List.set_cons_zero, List.set_cons_succ]
  -- 1: t12 := fieldAddr 70 t3 0 : 0
  refine wpB_take (i := 1) (v := ?_) (get_of_drop rfl) (by kernel_rfl) (by kernel_rfl) (by kernel_rfl) (by kernel_rfl) (fun _ _ _ h => h) (Or.inl ⟨by rfl, ?_⟩) hHeld ?_
  rotate_left
  · (intro w hSw; (try dsimp only at hSw); go_simp <;> with_reducible rfl)
  try simp only [Act.put, List.setIfInBounds_toArray, List.set_cons_zero, List.set_cons_succ]
  -- 2: t13 := load 3 t12 : 3
  refine wpB_take (i := 2) (v := ?_) (get_of_drop rfl) (by kernel_rfl) (by kernel_rfl) (by kernel_rfl) (by kernel_rfl) (fun _ _ _ h => h) (Or.inl ⟨by rfl, ?_⟩) hHeld ?_
  rotate_left
  · (intro w hSw; (try dsimp only at hSw); go_simp <;> with_reducible rfl)
  try simp only [Act.put, List.setIfInBounds_toArray, List.set_cons_zero, List.set_cons_succ]
  -- 4: t15 := fieldAddr 70 t3 1 : 0
  refine wpB_take (i := 4) (v := ?_) (get_of_drop rfl) (by kernel_rfl) (by kernel_rfl) (by kernel_rfl) (by kernel_rfl) (fun _ _ _ h => h) (Or.inl ⟨by rfl, ?_⟩) hHeld ?_
  rotate_left
  · (intro w hSw; (try dsimp only at hSw); go_simp <;> with_reducible rfl)
  try simp only [Act.put, List.setIfInBounds_toArray, List.set_cons_zero, List.set_cons_succ]
  -- 5: t16 := load 3 t15 : 3
  refine wpB_take (i := 5) (v := ?_) (get_of_drop rfl) (by kernel_rfl) (by kernel_rfl) (by kernel_rfl) (by kernel_rfl) (fun _ _ _ h => h) (Or.inl ⟨by rfl, ?_⟩) hHeld ?_
  rotate_left
  · (intro w hSw; (try dsimp only at hSw); go_simp <;> with_reducible rfl)
  try simp only [Act.put, List.setIfInBounds_toArray, List.set_cons_zero, List.set_cons_succ]
  -- 7: t18 := fieldAddr 70 t3 2 : 0
  refine wpB_take (i := 7) (v := ?_) (get_of_drop rfl) (by kernel_rfl) (by kernel_rfl) (by kernel_rfl) (by kernel_rfl) (fun _ _ _ h => h) (Or.inl ⟨by rfl, ?_⟩) hHeld ?_
  rotate_left
  · (intro w hSw; (try dsimp only at hSw); go_simp <;> with_reducible rfl)
  try simp only [Act.put, List.setIfInBounds_toArray, List.set_cons_zero, List.set_cons_succ]
  -- 8: t19 := load 3 t18 : 3
  refine wpB_take (i := 8) (v := ?_) (get_of_drop rfl) (by kernel_rfl) (by kernel_rfl) (by kernel_rfl) (by kernel_rfl) (fun _ _ _ h => h) (Or.inl ⟨by rfl, ?_⟩) hHeld ?_
  rotate_left
  · (intro w hSw; (try dsimp only at hSw); go_simp <;> with_reducible rfl)
  try simp only [Act.put, List.setIfInBounds_toArray, List.set_cons_zero, List.set_cons_succ]
  -- 3: t14 := CALL fn41(t11, t13) : 25
  refine wpB_act (i := 3) (by kernel_rfl) (get_of_drop rfl) (fun K hK => ?_)
  go_simp
  refine (refnum_any (n := e.view) a0.out.byt (HOK.out.nums _ (by simp [Entry.nums])) (by (try simp only [List.length_append, num_len, flatMap_num_len, List.length_nil]); omega)).mono ?_
  rintro e' aw1 ⟨av1, rfl, h1⟩
  have a1 := hid (a0.out.trans h1)
  clear h1
  refine hK.out _ _ ?_ (fun hHeld2 => ?_)
  · first | assumption | exact a5.out.chg | exact a4.out.chg | exact a3.out.chg | exact a2.out.chg | exact a1.out.chg | exact a0.out.chg
  clear hHeld hK K
  have hHeld := hHeld2
  clear hHeld2
  try simp only [Act.put, List.setIfInBounds_toArray, List.set_cons_zero, List.set_cons_succ]
  -- 6: t17 := CALL fn41(t14, t16) : 25
  refine wpB_act (i := 6) (by kernel_rfl) (get_of_drop rfl) (fun K hK => ?_)
  go_simp
  refine (refnum_any (n := e.client) a1.out.byt (HOK.out.nums _ (by simp [Entry.nums])) (by (try simp only [List.length_append, num_len, flatMap_num_len, List.length_nil]); omega)).mono ?_
  rintro e' aw2 ⟨av2, rfl, h1⟩
  have a2 := hid (a1.out.trans h1)
  clear h1
  refine hK.out _ _ ?_ (fun hHeld2 => ?_)
  · first | assumption | exact a5.out.chg | exact a4.out.chg | exact a3.out.chg | exact a2.out.chg | exact a1.out.chg | exact a0.out.chg
  clear hHeld hK K
  have hHeld := hHeld2
  clear hHeld2
  try simp only [Act.put, List.setIfInBounds_toArray, List.set_cons_zero, List.set_cons_succ]
  -- 9: t20 := CALL fn41(t17, t19) : 25
  refine wpB_act (i := 9) (by kernel_rfl) (get_of_drop rfl) (fun K hK => ?_)
  go_simp
  refine (refnum_any (n := e.request) a2.out.byt (HOK.out.nums _ (by simp [Entry.nums])) (by (try simp only [List.length_append, num_len, flatMap_num_len, List.length_nil]); omega)).mono ?_
  rintro e' aw3 ⟨av3, rfl, h1⟩
  have a3 := hid (a2.out.trans h1)
  clear h1
  refine hK.out _ _ ?_ (fun hHeld2 => ?_)
  · first | assumption | exact a5.out.chg | exact a4.out.chg | exact a3.out.chg | exact a2.out.chg | exact a1.out.chg | exact a0.out.chg
  clear hHeld hK K
  have hHeld := hHeld2
  clear hHeld2
  try simp only [Act.put, List.setIfInBounds_toArray, List.set_cons_zero, List.set_cons_succ]
  -- 10: t0 := assign t20 : 25
  refine wpB_take (i := 10) (v := ?_) (get_of_drop rfl) (by kernel_rfl) (by kernel_rfl) (by kernel_rfl) (by kernel_rfl) (fun _ _ _ h => h) (Or.inl ⟨by rfl, ?_⟩) hHeld ?_
  rotate_left
  · (intro w hSw; (try dsimp only at hSw); go_simp <;> with_reducible rfl)
  try simp only [Act.put, List.setIfInBounds_toArray, List.set_cons_zero, List.set_cons_succ]
  refine wpB_done (by kernel_rfl) ?_ _
  clear hHeld x0 x1 x2 y4 y5
  have hb0 : Chg (fun k => S k ∧ k < w.heap.size) w0 aw3.drew := a3.out.drew.chg
  have b0 := hid a3.out.drew
  clear a0 a1 a2
  go_wp2_with fail
  refine wpB_start (fun wx : World => Chg (fun k => S k ∧ k < w.heap.size) w0 wx) (by kernel_rfl) ?_
  have hHeld : (fun wx : World => Chg (fun k => S k ∧ k < w.heap.size) w0 wx) _ := (by first | assumption | exact Chg.drew (Chg.refl _ _) | (show _ ∧ _; refine ⟨?_, ?_⟩ <;> assumption) | first | assumption | exact b6.out.chg | exact b5.out.chg | exact b4.out.chg | exact b3.out.chg | exact b2.out.chg | exact b1.out.chg | exact b0.out.chg)
  -- 0: t21 := move t0 : 25
  refine wpB_take (i := 0) (v := ?_) (get_of_drop rfl) (by kernel_rfl) (by kernel_rfl) (by kernel_rfl) (by kernel_rfl) (fun _ _ _ h => h) (Or.inl ⟨by rfl, ?_⟩) hHeld ?_
  rotate_left
  · (intro w hSw; (try dsimp only at hSw); go_simp <;> with_reducible rfl)
  try simp only [Act.put, List.setIfInBounds_toArray, List.set_cons_zero, List.set_cons_succ]
  -- 1: t22 := fieldAddr 68 t5 0 : 0
  refine wpB_take (i := 1) (v := ?_) (get_of_drop rfl) (by kernel_rfl) (by kernel_rfl) (by kernel_rfl) (by kernel_rfl) (fun _ _ _ h => h) (Or.inl ⟨by rfl, ?_⟩) hHeld ?_
  rotate_left
  · (intro w hSw; (try dsimp only at hSw); go_simp <;> with_reducible rfl)
  try simp only [Act.put, List.setIfInBounds_toArray, List.set_cons_zero, List.set_cons_succ]
  -- 2: t23 := load 3 t22 : 3
  refine wpB_take (i := 2) (v := ?_) (get_of_drop rfl) (by kernel_rfl) (by kernel_rfl) (by kernel_rfl) (by kernel_rfl) (fun _ _ _ h => h) (Or.inl ⟨by rfl, ?_⟩) hHeld ?_
  rotate_left
  · (intro w hSw; (try dsimp only at hSw); go_simp <;> with_reducible rfl)
  try simp only [Act.put, List.setIfInBounds_toArray, List.set_cons_zero, List.set_cons_succ]
  -- 4: t25 := fieldAddr 68 t5 1 : 0
  refine wpB_take (i := 4) (v := ?_) (get_of_drop rfl) (by kernel_rfl) (by kernel_rfl) (by kernel_rfl) (by kernel_rfl) (fun _ _ _ h => h) (Or.inl ⟨by rfl, ?_⟩) hHeld ?_
  rotate_left
  · (intro w hSw; (try dsimp only at hSw); go_simp <;> with_reducible rfl)
  try simp only [Act.put, List.setIfInBounds_toArray, List.set_cons_zero, List.set_cons_succ]
  -- 5: t26 := load 3 t25 : 3
  refine wpB_take (i := 5) (v := ?_) (get_of_drop rfl) (by kernel_rfl) (by kernel_rfl) (by kernel_rfl) (by kernel_rfl) (fun _ _ _ h => h) (Or.inl ⟨by rfl, ?_⟩) hHeld ?_
  rotate_left
  · (intro w hSw; (try dsimp only at hSw); go_simp <;> with_reducible rfl)
  try simp only [Act.put, List.setIfInBounds_toArray, List.set_cons_zero, List.set_cons_succ]
  -- 7: t28 := fieldAddr 68 t5 2 : 0
  refine wpB_take (i := 7) (v := ?_) (get_of_drop rfl) (by kernel_rfl) (by kernel_rfl) (by kernel_rfl) (by kernel_rfl) (fun _ _ _ h => h) (Or.inl ⟨by rfl, ?_⟩) hHeld ?_
  rotate_left
  · (intro w hSw; (try dsimp only at hSw); go_simp <;> with_reducible rfl)
  try simp only [Act.put, List.setIfInBounds_toArray, List.set_cons_zero, List.set_cons_succ]
  -- 8: t29 := load 3 t28 : 3
  refine wpB_take (i := 8) (v := ?_) (get_of_drop rfl) (by kernel_rfl) (by kernel_rfl) (by kernel_rfl) (by kernel_rfl) (fun _ _ _ h => h) (Or.inl ⟨by rfl, ?_⟩) hHeld ?_
  rotate_left
  · (intro w hSw; (try dsimp only at hSw); go_simp <;> with_reducible rfl)
  try simp only [Act.put, List.setIfInBounds_toArray, List.set_cons_zero, List.set_cons_succ]
  -- 10: t31 := fieldAddr 68 t5 3 : 0
  refine wpB_take (i := 10) (v := ?_) (get_of_drop rfl) (by kernel_rfl) (by kernel_rfl) (by kernel_rfl) (by kernel_rfl) (fun _ _ _ h => h) (Or.inl ⟨by rfl, ?_⟩) hHeld ?_
  rotate_left
  · (intro w hSw; (try dsimp only at hSw); go_simp <;> with_reducible rfl)
  try simp only [Act.put, List.setIfInBounds_toArray, List.set_cons_zero, List.set_cons_succ]
  -- 11: t32 := load 3 t31 : 3
  refine wpB_take (i := 11) (v := ?_) (get_of_drop rfl) (by kernel_rfl) (by kernel_rfl) (by kernel_rfl) (by kernel_rfl) (fun _ _ _ h => h) (Or.inl ⟨by rfl, ?_⟩) hHeld ?_
  rotate_left
  · (intro w hSw; (try dsimp only at hSw); go_simp <;> with_reducible rfl)
  try simp only [Act.put, List.setIfInBounds_toArray, List.set_cons_zero, List.set_cons_succ]
  -- 3: t24 := CALL fn41(t21, t23) : 25
  refine wpB_act (i := 3) (by kernel_rfl) (get_of_drop rfl) (fun K hK => ?_)
  go_simp
  refine (refnum_any (n := e.dflt) b0.out.byt (HOK.out.nums _ (by simp [Entry.nums])) (by (try simp only [List.length_append, num_len, flatMap_num_len, List.length_nil]); omega)).mono ?_
  rintro e' bw1 ⟨bv1, rfl, h1⟩
  have b1 := hid (b0.out.trans h1)
  clear h1
  refine hK.out _ _ ?_ (fun hHeld2 => ?_)
  · first | assumption | exact b6.out.chg | exact b5.out.chg | exact b4.out.chg | exact b3.out.chg | exact b2.out.chg | exact b1.out.chg | exact b0.out.chg
  clear hHeld hK K
  have hHeld := hHeld2
  clear hHeld2
  try simp only [Act.put, List.setIfInBounds_toArray, List.set_cons_zero, List.set_cons_succ]
  -- 6: t27 := CALL fn41(t24, t26) : 25
  refine wpB_act (i := 6) (by kernel_rfl) (get_of_drop rfl) (fun K hK => ?_)
  go_simp
  refine (refnum_any (n := e.closed) b1.out.byt (HOK.out.nums _ (by simp [Entry.nums])) (by (try simp only [List.length_append, num_len, flatMap_num_len, List.length_nil]); omega)).mono ?_
  rintro e' bw2 ⟨bv2, rfl, h1⟩
  have b2 := hid (b1.out.trans h1)
  clear h1
  refine hK.out _ _ ?_ (fun hHeld2 => ?_)
  · first | assumption | exact b6.out.chg | exact b5.out.chg | exact b4.out.chg | exact b3.out.chg | exact b2.out.chg | exact b1.out.chg | exact b0.out.chg
  clear hHeld hK K
  have hHeld := hHeld2
  clear hHeld2
  try simp only [Act.put, List.setIfInBounds_toArray, List.set_cons_zero, List.set_cons_succ]
  -- 9: t30 := CALL fn41(t27, t29) : 25
  refine wpB_act (i := 9) (by kernel_rfl) (get_of_drop rfl) (fun K hK => ?_)
  go_simp
  refine (refnum_any (n := e.fuel) b2.out.byt (HOK.out.nums _ (by simp [Entry.nums])) (by (try simp only [List.length_append, num_len, flatMap_num_len, List.length_nil]); omega)).mono ?_
  rintro e' bw3 ⟨bv3, rfl, h1⟩
  have b3 := hid (b2.out.trans h1)
  clear h1
  refine hK.out _ _ ?_ (fun hHeld2 => ?_)
  · first | assumption | exact b6.out.chg | exact b5.out.chg | exact b4.out.chg | exact b3.out.chg | exact b2.out.chg | exact b1.out.chg | exact b0.out.chg
  clear hHeld hK K
  have hHeld := hHeld2
  clear hHeld2
  try simp only [Act.put, List.setIfInBounds_toArray, List.set_cons_zero, List.set_cons_succ]
  -- 12: t33 := CALL fn41(t30, t32) : 25
  refine wpB_act (i := 12) (by kernel_rfl) (get_of_drop rfl) (fun K hK => ?_)
  go_simp
  refine (refnum_any (n := e.stack) b3.out.byt (HOK.out.nums _ (by simp [Entry.nums])) (by (try simp only [List.length_append, num_len, flatMap_num_len, List.length_nil]); omega)).mono ?_
  rintro e' bw4 ⟨bv4, rfl, h1⟩
  have b4 := hid (b3.out.trans h1)
  clear h1
  refine hK.out _ _ ?_ (fun hHeld2 => ?_)
  · first | assumption | exact b6.out.chg | exact b5.out.chg | exact b4.out.chg | exact b3.out.chg | exact b2.out.chg | exact b1.out.chg | exact b0.out.chg
  clear hHeld hK K
  have hHeld := hHeld2
  clear hHeld2
  try simp only [Act.put, List.setIfInBounds_toArray, List.set_cons_zero, List.set_cons_succ]
  -- 13: t0 := assign t33 : 25
  refine wpB_take (i := 13) (v := ?_) (get_of_drop rfl) (by kernel_rfl) (by kernel_rfl) (by kernel_rfl) (by kernel_rfl) (fun _ _ _ h => h) (Or.inl ⟨by rfl, ?_⟩) hHeld ?_
  rotate_left
  · (intro w hSw; (try dsimp only at hSw); go_simp <;> with_reducible rfl)
  try simp only [Act.put, List.setIfInBounds_toArray, List.set_cons_zero, List.set_cons_succ]
  refine wpB_done (by kernel_rfl) ?_ _
  clear hHeld hb0 y0 y1 y2 y3 b0 b1 b2 b3 a3
  have z4 := Y4.out _ b4.out.chg
  obtain ⟨y, hy⟩ : ∃ y, y = x ++ num e.view ++ num e.client ++ num e.request ++ num e.dflt ++ num e.closed ++ num e.fuel ++ num e.stack := ⟨_, rfl⟩
  have HY := hid hy
  have hyl : y.length = x.length + 42 := by rw [hy]; simp only [List.length_append, num_len]
  have K4 := hid (show ByTo (fun k => S k ∧ k < w.heap.size) y w0 bw4 bv4 by rw [hy]; exact b4.out)
  clear hy b4
  go_wp2_with fail
  refine (refnum_any (n := (n1 : Int)) K4.out.byt ⟨by omega, by omega⟩ (by omega)).mono ?_
  rintro e' w5 ⟨v5, rfl, h5⟩
  have K5 := hid (K4.out.trans h5)
  clear h5 z4 K4
  go_wp2_with fail
  go_loopw [0, 6] (fun bb i wr => ∃ k : Nat, k ≤ n1 ∧ i = .int .i64 k ∧ ByTo (fun k => S k ∧ k < w.heap.size) (y ++ num n1 ++ (e.put.take k).flatMap ruleB) w0 wr bb) (fun _ i _ => n1 - (intOf i).toNat)
  case atStart => exact ⟨0, Nat.zero_le _, rfl, by simpa using K5.out⟩
  case round =>
    obtain ⟨k, hk, rfl, hT⟩ := hrel
    have HT := hid hT
    have z4 := Y4.out _ hT.chg
    clear hT
    by_cases hlt : k < n1
    · obtain ⟨r, hr⟩ : ∃ r, e.put[k]? = some r := ⟨_, List.getElem?_eq_getElem (by have := L1.out; omega)⟩
      have HRO := hid (HOK.out.put r (List.mem_of_getElem? hr))
      obtain ⟨a, cs, ha, haR, hK, hcs⟩ := HQ1.out.get (by decide) hr
      obtain ⟨rfl, hrw⟩ := rule_open hK
      subst ha
      have hcs2 : ∀ j u, (ruleCells r)[j]? = some u → wr.cell? (a.add (k * 5 + j)) = some u := fun j u hj => HT.out.chg.cell (hcs j u hj) (by rw [add_block]; exact fun h => HR.out _ haR.1 h.1)
      have x0 := elem_cell0 hcs2 _ rfl
      have x1 := elem_cell hcs2 0 _ rfl
      have x2 := elem_cell hcs2 1 _ rfl
      have x3 := elem_cell hcs2 2 _ rfl
      have x4 := elem_cell hcs2 3 _ rfl
      have HRR := hid (rules_next hr)
      have hfl := rules_len HOK.out.put k
      obtain ⟨u, hu⟩ : ∃ u, u = y ++ num n1 ++ (e.put.take k).flatMap ruleB := ⟨_, rfl⟩
      have HU := hid hu
      have hul : u.length ≤ 600000000 := by rw [hu]; simp only [List.length_append, num_len]; omega
      have hps : (r.pat.size : Int) ≤ 1000 := by have := HRO.out.2; omega
      clear hcs hK hcs2 hr haR hrw hfl hu
      have hlt2 : (k : Int) < (n1 : Int) := by omega
      go_wp2_with fail
      obtain ⟨wB, hwB⟩ : ∃ wB, wB = wr.alloc (.cells (ruleCells r).toArray 100) := ⟨_, rfl⟩
      have CC := hid (show Chg (fun _ => False) wr wB by rw [hwB]; exact (Chg.refl _ wr).alloc _)
      have BB := hid (show wB.heap[wr.heap.size]? = some (.cells (ruleCells r).toArray 100 (0, 0)) by rw [hwB]; exact blk_new wr _)
      have KB := hid (show Byt wB (fun k => ((S k ∧ k < w.heap.size) ∨ w0.heap.size ≤ k) ∧ k < wr.heap.size) _ u by rw [HU.out]; exact HT.out.byt.bound.chg CC.out (fun _ _ h => h))
      rw [show wr.alloc (.cells #[.int .i64 r.id, .int .i64 r.pri, .int .i64 r.act, .int .i64 r.scope, .string r.pat] 100) = wB from hwB.symm]
      clear hwB x0 x1 x2 x3 x4
      have x0 : ∀ wx, Chg (fun k => ((S k ∧ k < w.heap.size) ∨ w0.heap.size ≤ k) ∧ k < wr.heap.size) wB wx → wx.cell? ⟨wr.heap.size, 0, none⟩ = some (.int .i64 r.id) := fun wx hx => hx.cell (by rw [cellAt BB.out]; rfl) (fun h => Nat.lt_irrefl _ h.2)
      have x1 : ∀ wx, Chg (fun k => ((S k ∧ k < w.heap.size) ∨ w0.heap.size ≤ k) ∧ k < wr.heap.size) wB wx → wx.cell? ⟨wr.heap.size, 1, none⟩ = some (.int .i64 r.pri) := fun wx hx => hx.cell (by rw [cellAt BB.out]; rfl) (fun h => Nat.lt_irrefl _ h.2)
      have x2 : ∀ wx, Chg (fun k => ((S k ∧ k < w.heap.size) ∨ w0.heap.size ≤ k) ∧ k < wr.heap.size) wB wx → wx.cell? ⟨wr.heap.size, 2, none⟩ = some (.int .i64 r.act) := fun wx hx => hx.cell (by rw [cellAt BB.out]; rfl) (fun h => Nat.lt_irrefl _ h.2)
      have x3 : ∀ wx, Chg (fun k => ((S k ∧ k < w.heap.size) ∨ w0.heap.size ≤ k) ∧ k < wr.heap.size) wB wx → wx.cell? ⟨wr.heap.size, 3, none⟩ = some (.int .i64 r.scope) := fun wx hx => hx.cell (by rw [cellAt BB.out]; rfl) (fun h => Nat.lt_irrefl _ h.2)
      have x4 : ∀ wx, Chg (fun k => ((S k ∧ k < w.heap.size) ∨ w0.heap.size ≤ k) ∧ k < wr.heap.size) wB wx → wx.cell? ⟨wr.heap.size, 4, none⟩ = some (.string r.pat) := fun wx hx => hx.cell (by rw [cellAt BB.out]; rfl) (fun h => Nat.lt_irrefl _ h.2)
      have c0 := hid ((ByTo.refl KB.out).drew)
      clear z4
      refine wpB_start (fun wx : World => Chg (fun k => ((S k ∧ k < w.heap.size) ∨ w0.heap.size ≤ k) ∧ k < wr.heap.size) wB wx) (by kernel_rfl) ?_
      have hHeld : (fun wx : World => Chg (fun k => ((S k ∧ k < w.heap.size) ∨ w0.heap.size ≤ k) ∧ k < wr.heap.size) wB wx) _ := (by first | assumption | exact Chg.drew (Chg.refl _ _) | (show _ ∧ _; refine ⟨?_, ?_⟩ <;> assumption) | first | assumption | exact c6.out.chg | exact c5.out.chg | exact c4.out.chg | exact c3.out.chg | exact c2.out.chg | exact c1.out.chg | exact c0.out.chg)
      -- 0: t51 := move t0 : 25
      refine wpB_take (i := 0) (v := ?_) (get_of_drop rfl) (by kernel_rfl) (by kernel_rfl) (by kernel_rfl) (by kernel_rfl) (fun _ _ _ h => h) (Or.inl ⟨by rfl, ?_⟩) hHeld ?_
      rotate_left
      · (intro w hSw; (try dsimp only at hSw); go_simp <;> with_reducible rfl)
      try simp only [Act.put, List.setIfInBounds_toArray, List.set_cons_zero, List.set_cons_succ]
      -- 1: t52 := fieldAddr 100 t7 0 : 0
      refine wpB_take (i := 1) (v := ?_) (get_of_drop rfl) (by kernel_rfl) (by kernel_rfl) (by kernel_rfl) (by kernel_rfl) (fun _ _ _ h => h) (Or.inl ⟨by rfl, ?_⟩) hHeld ?_
      rotate_left
      · (intro w hSw; (try dsimp only at hSw); go_simp <;> with_reducible rfl)
      try simp only [Act.put, List.setIfInBounds_toArray, List.set_cons_zero, List.set_cons_succ]
      -- 2: t53 := load 3 t52 : 3
      refine wpB_take (i := 2) (v := ?_) (get_of_drop rfl) (by kernel_rfl) (by kernel_rfl) (by kernel_rfl) (by kernel_rfl) (fun _ _ _ h => h) (Or.inl ⟨by rfl, ?_⟩) hHeld ?_
      rotate_left
      · (intro w hSw; (try dsimp only at hSw); go_simp <;> with_reducible rfl)
      try simp only [Act.put, List.setIfInBounds_toArray, List.set_cons_zero, List.set_cons_succ]
      -- 4: t55 := fieldAddr 100 t7 1 : 0
      refine wpB_take (i := 4) (v := ?_) (get_of_drop rfl) (by kernel_rfl) (by kernel_rfl) (by kernel_rfl) (by kernel_rfl) (fun _ _ _ h => h) (Or.inl ⟨by rfl, ?_⟩) hHeld ?_
      rotate_left
      · (intro w hSw; (try dsimp only at hSw); go_simp <;> with_reducible rfl)
      try simp only [Act.put, List.setIfInBounds_toArray, List.set_cons_zero, List.set_cons_succ]
      -- 5: t56 := load 3 t55 : 3
      refine wpB_take (i := 5) (v := ?_) (get_of_drop rfl) (by kernel_rfl) (by kernel_rfl) (by kernel_rfl) (by kernel_rfl) (fun _ _ _ h => h) (Or.inl ⟨by rfl, ?_⟩) hHeld ?_
      rotate_left
      · (intro w hSw; (try dsimp only at hSw); go_simp <;> with_reducible rfl)
      try simp only [Act.put, List.setIfInBounds_toArray, List.set_cons_zero, List.set_cons_succ]
      -- 7: t58 := fieldAddr 100 t7 2 : 0
      refine wpB_take (i := 7) (v := ?_) (get_of_drop rfl) (by kernel_rfl) (by kernel_rfl) (by kernel_rfl) (by kernel_rfl) (fun _ _ _ h => h) (Or.inl ⟨by rfl, ?_⟩) hHeld ?_
      rotate_left
      · (intro w hSw; (try dsimp only at hSw); go_simp <;> with_reducible rfl)
      try simp only [Act.put, List.setIfInBounds_toArray, List.set_cons_zero, List.set_cons_succ]
      -- 8: t59 := load 3 t58 : 3
      refine wpB_take (i := 8) (v := ?_) (get_of_drop rfl) (by kernel_rfl) (by kernel_rfl) (by kernel_rfl) (by kernel_rfl) (fun _ _ _ h => h) (Or.inl ⟨by rfl, ?_⟩) hHeld ?_
      rotate_left
      · (intro w hSw; (try dsimp only at hSw); go_simp <;> with_reducible rfl)
      try simp only [Act.put, List.setIfInBounds_toArray, List.set_cons_zero, List.set_cons_succ]
      -- 10: t61 := fieldAddr 100 t7 3 : 0
      refine wpB_take (i := 10) (v := ?_) (get_of_drop rfl) (by kernel_rfl) (by kernel_rfl) (by kernel_rfl) (by kernel_rfl) (fun _ _ _ h => h) (Or.inl ⟨by rfl, ?_⟩) hHeld ?_
      rotate_left
      · (intro w hSw; (try dsimp only at hSw); go_simp <;> with_reducible rfl)
      try simp only [Act.put, List.setIfInBounds_toArray, List.set_cons_zero, List.set_cons_succ]
      -- 11: t62 := load 3 t61 : 3
      refine wpB_take (i := 11) (v := ?_) (get_of_drop rfl) (by kernel_rfl) (by kernel_rfl) (by kernel_rfl) (by kernel_rfl) (fun _ _ _ h => h) (Or.inl ⟨by rfl, ?_⟩) hHeld ?_
      rotate_left
      · (intro w hSw; (try dsimp only at hSw); go_simp <;> with_reducible rfl)
      try simp only [Act.put, List.setIfInBounds_toArray, List.set_cons_zero, List.set_cons_succ]
      -- 3: t54 := CALL fn41(t51, t53) : 25
      refine wpB_act (i := 3) (by kernel_rfl) (get_of_drop rfl) (fun K hK => ?_)
      go_simp
      refine (refnum_any (n := r.id) c0.out.byt (HRO.out.1 _ (by simp [Rule.nums])) (by (try simp only [List.length_append, num_len, flatMap_num_len, List.length_nil]); omega)).mono ?_
      rintro e' cw1 ⟨cv1, rfl, h1⟩
      have c1 := hid (c0.out.trans h1)
      clear h1
      refine hK.out _ _ ?_ (fun hHeld2 => ?_)
      · first | assumption | exact c6.out.chg | exact c5.out.chg | exact c4.out.chg | exact c3.out.chg | exact c2.out.chg | exact c1.out.chg | exact c0.out.chg
      clear hHeld hK K
      have hHeld := hHeld2
      clear hHeld2
      try simp only [Act.put, List.setIfInBounds_toArray, List.set_cons_zero, List.set_cons_succ]
      -- 6: t57 := CALL fn41(t54, t56) : 25
      refine wpB_act (i := 6) (by kernel_rfl) (get_of_drop rfl) (fun K hK => ?_)
      go_simp
      refine (refnum_any (n := r.pri) c1.out.byt (HRO.out.1 _ (by simp [Rule.nums])) (by (try simp only [List.length_append, num_len, flatMap_num_len, List.length_nil]); omega)).mono ?_
      rintro e' cw2 ⟨cv2, rfl, h1⟩
      have c2 := hid (c1.out.trans h1)
      clear h1
      refine hK.out _ _ ?_ (fun hHeld2 => ?_)
      · first | assumption | exact c6.out.chg | exact c5.out.chg | exact c4.out.chg | exact c3.out.chg | exact c2.out.chg | exact c1.out.chg | exact c0.out.chg
      clear hHeld hK K
      have hHeld := hHeld2
      clear hHeld2
      try simp only [Act.put, List.setIfInBounds_toArray, List.set_cons_zero, List.set_cons_succ]
      -- 9: t60 := CALL fn41(t57, t59) : 25
      refine wpB_act (i := 9) (by kernel_rfl) (get_of_drop rfl) (fun K hK => ?_)
      go_simp
      refine (refnum_any (n := r.act) c2.out.byt (HRO.out.1 _ (by simp [Rule.nums])) (by (try simp only [List.length_append, num_len, flatMap_num_len, List.length_nil]); omega)).mono ?_
      rintro e' cw3 ⟨cv3, rfl, h1⟩
      have c3 := hid (c2.out.trans h1)
      clear h1
      refine hK.out _ _ ?_ (fun hHeld2 => ?_)
      · first | assumption | exact c6.out.chg | exact c5.out.chg | exact c4.out.chg | exact c3.out.chg | exact c2.out.chg | exact c1.out.chg | exact c0.out.chg
      clear hHeld hK K
      have hHeld := hHeld2
      clear hHeld2
      try simp only [Act.put, List.setIfInBounds_toArray, List.set_cons_zero, List.set_cons_succ]
      -- 12: t63 := CALL fn41(t60, t62) : 25
      refine wpB_act (i := 12) (by kernel_rfl) (get_of_drop rfl) (fun K hK => ?_)
      go_simp
      refine (refnum_any (n := r.scope) c3.out.byt (HRO.out.1 _ (by simp [Rule.nums])) (by (try simp only [List.length_append, num_len, flatMap_num_len, List.length_nil]); omega)).mono ?_
      rintro e' cw4 ⟨cv4, rfl, h1⟩
      have c4 := hid (c3.out.trans h1)
      clear h1
      refine hK.out _ _ ?_ (fun hHeld2 => ?_)
      · first | assumption | exact c6.out.chg | exact c5.out.chg | exact c4.out.chg | exact c3.out.chg | exact c2.out.chg | exact c1.out.chg | exact c0.out.chg
      clear hHeld hK K
      have hHeld := hHeld2
      clear hHeld2
      try simp only [Act.put, List.setIfInBounds_toArray, List.set_cons_zero, List.set_cons_succ]
      -- 13: t0 := assign t63 : 25
      refine wpB_take (i := 13) (v := ?_) (get_of_drop rfl) (by kernel_rfl) (by kernel_rfl) (by kernel_rfl) (by kernel_rfl) (fun _ _ _ h => h) (Or.inl ⟨by rfl, ?_⟩) hHeld ?_
      rotate_left
      · (intro w hSw; (try dsimp only at hSw); go_simp <;> with_reducible rfl)
      try simp only [Act.put, List.setIfInBounds_toArray, List.set_cons_zero, List.set_cons_succ]
      refine wpB_done (by kernel_rfl) ?_ _
      clear hHeld x0 x1 x2 x3 c0 c1 c2 c3
      have hd0 : Chg (fun k => ((S k ∧ k < w.heap.size) ∨ w0.heap.size ≤ k) ∧ k < wr.heap.size) wB cw4.drew := c4.out.drew.chg
      have d0 := hid c4.out.drew
      go_wp2_with fail
      refine wpB_start (fun wx : World => Chg (fun k => ((S k ∧ k < w.heap.size) ∨ w0.heap.size ≤ k) ∧ k < wr.heap.size) wB wx) (by kernel_rfl) ?_
      have hHeld : (fun wx : World => Chg (fun k => ((S k ∧ k < w.heap.size) ∨ w0.heap.size ≤ k) ∧ k < wr.heap.size) wB wx) _ := (by first | assumption | exact Chg.drew (Chg.refl _ _) | (show _ ∧ _; refine ⟨?_, ?_⟩ <;> assumption) | first | assumption | exact d3.out.chg | exact d2.out.chg | exact d1.out.chg | exact d0.out.chg)
      -- 0: t64 := move t0 : 25
      refine wpB_take (i := 0) (v := ?_) (get_of_drop rfl) (by kernel_rfl) (by kernel_rfl) (by kernel_rfl) (by kernel_rfl) (fun _ _ _ h => h) (Or.inl ⟨by rfl, ?_⟩) hHeld ?_
      rotate_left
      · (intro w hSw; (try dsimp only at hSw); go_simp <;> with_reducible rfl)
      try simp only [Act.put, List.setIfInBounds_toArray, List.set_cons_zero, List.set_cons_succ]
      -- 1: t65 := fieldAddr 100 t7 4 : 0
      refine wpB_take (i := 1) (v := ?_) (get_of_drop rfl) (by kernel_rfl) (by kernel_rfl) (by kernel_rfl) (by kernel_rfl) (fun _ _ _ h => h) (Or.inl ⟨by rfl, ?_⟩) hHeld ?_
      rotate_left
      · (intro w hSw; (try dsimp only at hSw); go_simp <;> with_reducible rfl)
      try simp only [Act.put, List.setIfInBounds_toArray, List.set_cons_zero, List.set_cons_succ]
      -- 2: t66 := load 9 t65 : 9
      refine wpB_take (i := 2) (v := ?_) (get_of_drop rfl) (by kernel_rfl) (by kernel_rfl) (by kernel_rfl) (by kernel_rfl) (fun _ _ _ h => h) (Or.inl ⟨by rfl, ?_⟩) hHeld ?_
      rotate_left
      · (intro w hSw; (try dsimp only at hSw); go_simp <;> with_reducible rfl)
      try simp only [Act.put, List.setIfInBounds_toArray, List.set_cons_zero, List.set_cons_succ]
      -- 3: t67 := len(t66) types [9] : 3
      refine wpB_take (i := 3) (v := ?_) (get_of_drop rfl) (by kernel_rfl) (by kernel_rfl) (by kernel_rfl) (by kernel_rfl) (fun _ _ _ h => h) (Or.inl ⟨by rfl, ?_⟩) hHeld ?_
      rotate_left
      · (intro w hSw; (try dsimp only at hSw); go_simp <;> with_reducible rfl)
      try simp only [Act.put, List.setIfInBounds_toArray, List.set_cons_zero, List.set_cons_succ]
      -- 5: t69 := fieldAddr 100 t7 4 : 0
      refine wpB_take (i := 5) (v := ?_) (get_of_drop rfl) (by kernel_rfl) (by kernel_rfl) (by kernel_rfl) (by kernel_rfl) (fun _ _ _ h => h) (Or.inl ⟨by rfl, ?_⟩) hHeld ?_
      rotate_left
      · (intro w hSw; (try dsimp only at hSw); go_simp <;> with_reducible rfl)
      try simp only [Act.put, List.setIfInBounds_toArray, List.set_cons_zero, List.set_cons_succ]
      -- 6: t70 := load 9 t69 : 9
      refine wpB_take (i := 6) (v := ?_) (get_of_drop rfl) (by kernel_rfl) (by kernel_rfl) (by kernel_rfl) (by kernel_rfl) (fun _ _ _ h => h) (Or.inl ⟨by rfl, ?_⟩) hHeld ?_
      rotate_left
      · (intro w hSw; (try dsimp only at hSw); go_simp <;> with_reducible rfl)
      try simp only [Act.put, List.setIfInBounds_toArray, List.set_cons_zero, List.set_cons_succ]
      -- 4: t68 := CALL fn41(t64, t67) : 25
      refine wpB_act (i := 4) (by kernel_rfl) (get_of_drop rfl) (fun K hK => ?_)
      go_simp
      refine (refnum_any (n := (r.pat.size : Int)) d0.out.byt ⟨by omega, by omega⟩ (by (try simp only [List.length_append, num_len, flatMap_num_len, List.length_nil]); omega)).mono ?_
      rintro e' dw1 ⟨dv1, rfl, h1⟩
      have d1 := hid (d0.out.trans h1)
      clear h1
      refine hK.out _ _ ?_ (fun hHeld2 => ?_)
      · first | assumption | exact d3.out.chg | exact d2.out.chg | exact d1.out.chg | exact d0.out.chg
      clear hHeld hK K
      have hHeld := hHeld2
      clear hHeld2
      try simp only [Act.put, List.setIfInBounds_toArray, List.set_cons_zero, List.set_cons_succ]
      -- 7: t71 := append(t68, t70) types [25, 9] : 25
      refine wpB_act (i := 7) (by kernel_rfl) (get_of_drop rfl) (fun K hK => ?_)
      obtain ⟨nx, hnx⟩ : ∃ nx, nx = (u ++ num r.id ++ num r.pri ++ num r.act ++ num r.scope ++ num r.pat.size).length := ⟨_, rfl⟩
      have hnxb : nx ≤ 700000000 := by rw [hnx]; simp only [List.length_append, num_len]; omega
      have NX := hid hnx
      clear hnx
      refine appstr_step _ rfl (.tmp 68) (.tmp 70) 25 9 5 rfl Try.underlying25 Try.underlying9 info5 dv1 nx _ rfl (by rw [NX.out]; exact d1.out.byt.row) r.pat rfl (by omega) ?_
      intro A3 c3 dw2 h1 h2 h3
      have d2 := hid (d1.out.app (y := u ++ num r.id ++ num r.pri ++ num r.act ++ num r.scope ++ num r.pat.size ++ bts r.pat) (v' := .slice A3 (nx + r.pat.size) c3) (by rw [List.length_append, bts_length, u8s_append, ← NX.out]; exact h1) h2 h3)
      clear h1 h2 h3
      refine hK.out _ _ ?_ (fun hHeld2 => ?_)
      · first | assumption | exact d3.out.chg | exact d2.out.chg | exact d1.out.chg | exact d0.out.chg
      clear hHeld hK K
      have hHeld := hHeld2
      clear hHeld2
      try simp only [Act.put, List.setIfInBounds_toArray, List.set_cons_zero, List.set_cons_succ]
      -- 8: t0 := assign t71 : 25
      refine wpB_take (i := 8) (v := ?_) (get_of_drop rfl) (by kernel_rfl) (by kernel_rfl) (by kernel_rfl) (by kernel_rfl) (fun _ _ _ h => h) (Or.inl ⟨by rfl, ?_⟩) hHeld ?_
      rotate_left
      · (intro w hSw; (try dsimp only at hSw); go_simp <;> with_reducible rfl)
      try simp only [Act.put, List.setIfInBounds_toArray, List.set_cons_zero, List.set_cons_succ]
      refine wpB_done (by kernel_rfl) ?_ _
      clear hHeld x4
      have HF := hid (show ByTo (fun k => S k ∧ k < w.heap.size) (y ++ num n1 ++ (e.put.take (k + 1)).flatMap ruleB) w0 dw2 _ from by
        have q1 := HT.out.trans (ByTo.pre CC.out d2.out (fun k hk => .inl hk.1))
        have q2 : u ++ num r.id ++ num r.pri ++ num r.act ++ num r.scope ++ num r.pat.size ++ bts r.pat = u ++ ruleB r := by simp only [ruleB, List.append_assoc]
        rw [q2, HU.out, HRR.out] at q1
        exact q1)
      clear hd0 d0 d1 d2 c4
      go_wp2_with fail
      go_roundw
      case measure => simp [intOf]; omega
      case rel => first | exact ⟨k + 1, hlt, by go_num, HF.out⟩ | ((repeat apply Exists.intro); exact ⟨⟨k + 1, hlt, by go_num, HF.out⟩, rfl⟩)
    · have hkn : ¬ (k : Int) < (n1 : Int) := by omega
      obtain rfl : k = n1 := by omega
      obtain ⟨u, hu⟩ : ∃ u, u = y ++ num k ++ e.put.flatMap ruleB := ⟨_, rfl⟩
      have HU := hid hu
      have hul : u.length ≤ 600000000 := by
        have := rules_len HOK.out.put e.put.length
        rw [List.take_length] at this
        rw [hu]
        have := L1.out
        simp only [List.length_append, num_len]
        omega
      have K6 := hid (show ByTo (fun k => S k ∧ k < w.heap.size) u w0 wr _ from by
        have := HT.out
        rw [List.take_of_length_le (by have := L1.out; omega)] at this
        rw [hu]
        exact this)
      have z5 := Y5.out _ HT.out.chg
      clear HT hu
      go_wp2_with fail
      refine (refnum_any (n := (n2 : Int)) K6.out.byt ⟨by omega, by omega⟩ (by omega)).mono ?_
      rintro e' w7 ⟨v7, rfl, h7⟩
      have K7 := hid (K6.out.trans h7)
      clear h7 z4 z5 K6
      go_wp2_with fail
      go_loopw [0, 8] (fun bb i wr => ∃ j : Nat, j ≤ n2 ∧ i = .int .i64 j ∧ ByTo (fun k => S k ∧ k < w.heap.size) (u ++ num n2 ++ (e.drop.take j).flatMap num) w0 wr bb) (fun _ i _ => n2 - (intOf i).toNat)
      case atStart => exact ⟨0, Nat.zero_le _, rfl, by simpa using K7.out⟩
      case round =>
        obtain ⟨j, hj, rfl, hT⟩ := hrel
        have HT := hid hT
        have z5 := Y5.out _ hT.chg
        clear hT
        by_cases hlt : j < n2
        · obtain ⟨r, hr⟩ : ∃ r, e.drop[j]? = some r := ⟨_, List.getElem?_eq_getElem (by have := L2.out; omega)⟩
          have HRO := hid (HOK.out.drop r (List.mem_of_getElem? hr))
          obtain ⟨a, cs, ha, haR, hK, hcs⟩ := HQ2.out.get (by decide) hr
          obtain ⟨rfl, hrw⟩ := (id hK)
          subst ha
          have hcs2 : ∀ i u, [Value.int .i64 r][i]? = some u → wr.cell? (a.add (j * 1 + i)) = some u := fun i u hi => HT.out.chg.cell (hcs i u hi) (by rw [add_block]; exact fun h => HR.out _ haR.1 h.1)
          have x0 := elem_cell0 hcs2 _ rfl
          rw [Nat.mul_one] at x0
          have HRR := hid (nums_next hr)
          have hfl := nums_len HOK.out.drop j
          clear hcs hK hcs2 hr haR hrw
          have hlt2 : (j : Int) < (n2 : Int) := by omega
          go_wp2_with fail
          refine (refnum_any (n := r) HT.out.byt HRO.out (by simp only [List.length_append, num_len]; omega)).mono ?_
          rintro e' w9 ⟨v9, rfl, h9⟩
          have HF := hid (HT.out.trans h9)
          rw [HRR.out] at HF
          clear h9 x0 z5 hfl
          go_wp2_with fail
          go_roundw
          case measure => simp [intOf]; omega
          case rel => first | exact ⟨j + 1, hlt, by go_num, HF.out⟩ | ((repeat apply Exists.intro); exact ⟨⟨j + 1, hlt, by go_num, HF.out⟩, rfl⟩)
        · have hkn : ¬ (j : Int) < (n2 : Int) := by omega
          obtain rfl : j = n2 := by omega
          go_wp2_with fail
          go_ret
          refine ⟨_, rfl, ?_⟩
          have q1 := HT.out
          rw [List.take_of_length_le (by have := L2.out; omega), HU.out, HY.out] at q1
          have q2 : ByTo S _ w wr _ := ByTo.pre CB.out q1 (fun k hk => .inl hk.1)
          rw [entryB_eq]
          have l1 := L1.out
          have l2 := L2.out
          rw [← l1, ← l2]
          simp only [Entry.nums, List.flatMap_cons, List.flatMap_nil, List.append_assoc, List.append_nil] at q2 ⊢
          exact q2
end Go.Proofs.Ytcmfgijdelaelaa.Pa
