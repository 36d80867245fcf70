
/- What the statements make of messages and records. -/

import Derived.Test.YtcmfgijdelaelaaPackMb

import Derived.Test.YtcmfgijdelaelaaPackG

namespace Go.Proofs.Ytcmfgijdelaelaa.Pa

set_option linter.unusedVariables false

set_option linter.unusedSimpArgs false

open Go.RowKit Go.Proofs.Ytcmfgijdelaelaa.C

attribute [local go_sem] max2_int min2_int max_two min_two

def MadeMsg (R : Nat → Prop) (m : Msg) (w : World) (e' : Ending) (w' : World) : Prop :=
  ∃ A' c', e' = .returned (.agg #[.int .i64 m.kind, .int .i64 m.view, .int .i64 m.src, .int .i64 m.dst, .int .i64 m.op, .int .i64 m.commit, .int .i64 m.normal, .slice A' m.log.length c']) ∧ Ty.At entryK w' (fun k => (R k ∧ k < w.heap.size) ∨ w.heap.size ≤ k) A' m.log.length c' m.log ∧ Chg (fun _ => False) w w'
set_option maxHeartbeats 4000000 in
set_option maxRecDepth 100000 in
theorem mademsg_any {w : World} {R : Nat → Prop} {m : Msg} {A : Option Addr} {n c : Nat} (hl : Ty.At entryK w R A n c m.log) (hn : n ≤ 1000000) (hput : ∀ e ∈ m.log, e.put.length ≤ 1000000) :
    Calls Try.prog 22 #[.agg #[.int .i64 m.kind, .int .i64 m.view, .int .i64 m.src, .int .i64 m.dst, .int .i64 m.op, .int .i64 m.commit, .int .i64 m.normal, .slice A n c]] w (MadeMsg R m w) := by
  obtain ⟨w0, hw0⟩ : ∃ w0, w0 = (w.alloc (.cells #[.int .i64 m.kind, .int .i64 m.view, .int .i64 m.src, .int .i64 m.dst, .int .i64 m.op, .int .i64 m.commit, .int .i64 m.normal, .slice A n c] 43)).alloc (.cells #[.int .i64 0, .int .i64 0, .int .i64 0, .int .i64 0, .int .i64 0, .int .i64 0, .int .i64 0, .slice none 0 0] 47) := ⟨_, rfl⟩
  have C0 := hid (show Chg (fun _ => False) w w0 by rw [hw0]; exact ((Chg.refl _ w).alloc _).alloc _)
  have B0 := hid (show w0.heap[w.heap.size]? = some (.cells #[.int .i64 m.kind, .int .i64 m.view, .int .i64 m.src, .int .i64 m.dst, .int .i64 m.op, .int .i64 m.commit, .int .i64 m.normal, .slice A n c] 43 (0, 0)) by rw [hw0]; exact blk_alloc (blk_new w _) _)
  have T0 := hid (show w0.heap[w.heap.size + 1]? = some (.cells #[.int .i64 0, .int .i64 0, .int .i64 0, .int .i64 0, .int .i64 0, .int .i64 0, .int .i64 0, .slice none 0 0] 47 (0, 0)) by
    rw [hw0]
    have := blk_new (w.alloc (.cells #[.int .i64 m.kind, .int .i64 m.view, .int .i64 m.src, .int .i64 m.dst, .int .i64 m.op, .int .i64 m.commit, .int .i64 m.normal, .slice A n c] 43)) (.cells #[.int .i64 0, .int .i64 0, .int .i64 0, .int .i64 0, .int .i64 0, .int .i64 0, .int .i64 0, .slice none 0 0] 47)
    simpa using this)
  have HL := hid hl
  have HL0 := hid (hl.bound.chg C0.out (fun _ _ h => h))
  have HPUT := hid hput
  have x0 : ∀ wx, Chg (fun k => k = w.heap.size + 1) w0 wx → wx.cell? ⟨w.heap.size, 0, none⟩ = some (.int .i64 m.kind) := fun wx hx => hx.cell (by rw [cellAt B0.out]; rfl) (by show ¬ w.heap.size = _; omega)
  have x1 : ∀ wx, Chg (fun k => k = w.heap.size + 1) w0 wx → wx.cell? ⟨w.heap.size, 1, none⟩ = some (.int .i64 m.view) := fun wx hx => hx.cell (by rw [cellAt B0.out]; rfl) (by show ¬ w.heap.size = _; omega)
  have x2 : ∀ wx, Chg (fun k => k = w.heap.size + 1) w0 wx → wx.cell? ⟨w.heap.size, 2, none⟩ = some (.int .i64 m.src) := fun wx hx => hx.cell (by rw [cellAt B0.out]; rfl) (by show ¬ w.heap.size = _; omega)
  have x3 : ∀ wx, Chg (fun k => k = w.heap.size + 1) w0 wx → wx.cell? ⟨w.heap.size, 3, none⟩ = some (.int .i64 m.dst) := fun wx hx => hx.cell (by rw [cellAt B0.out]; rfl) (by show ¬ w.heap.size = _; omega)
  have x4 : ∀ wx, Chg (fun k => k = w.heap.size + 1) w0 wx → wx.cell? ⟨w.heap.size, 4, none⟩ = some (.int .i64 m.op) := fun wx hx => hx.cell (by rw [cellAt B0.out]; rfl) (by show ¬ w.heap.size = _; omega)
  have x5 : ∀ wx, Chg (fun k => k = w.heap.size + 1) w0 wx → wx.cell? ⟨w.heap.size, 5, none⟩ = some (.int .i64 m.commit) := fun wx hx => hx.cell (by rw [cellAt B0.out]; rfl) (by show ¬ w.heap.size = _; omega)
  have x6 : ∀ wx, Chg (fun k => k = w.heap.size + 1) w0 wx → wx.cell? ⟨w.heap.size, 6, none⟩ = some (.int .i64 m.normal) := fun wx hx => hx.cell (by rw [cellAt B0.out]; rfl) (by show ¬ w.heap.size = _; omega)
  have x7 : ∀ wx, Chg (fun k => k = w.heap.size + 1) w0 wx → wx.cell? ⟨w.heap.size, 7, none⟩ = some (.slice A n c) := fun wx hx => hx.cell (by rw [cellAt B0.out]; rfl) (by show ¬ w.heap.size = _; omega)
  clear hl hput
  go_enter Try.func22, Try.ntmps22
  go_wp2_with fail
  rw [← hw0]
  clear hw0
  refine wpB_start (fun wx : World => Chg (fun k => k = w.heap.size + 1) w0 wx) (by kernel_rfl) ?_
  have hHeld : (fun wx : World => Chg (fun k => k = w.heap.size + 1) w0 wx) _ := (by first | assumption | exact Chg.drew (Chg.refl _ _) | (show _ ∧ _; refine ⟨?_, ?_⟩ <;> assumption) | (first | (with_reducible exact hHeld.trans HZ.out (fun _ h _ => h.elim)) | (with_reducible exact ((((((((hHeld.set (p := ⟨w.heap.size + 1, 0, none⟩) (fun _ => rfl) (.int .i64 m.kind)).set (p := ⟨w.heap.size + 1, 1, none⟩) (fun _ => rfl) (.int .i64 m.view)).set (p := ⟨w.heap.size + 1, 2, none⟩) (fun _ => rfl) (.int .i64 m.src)).set (p := ⟨w.heap.size + 1, 3, none⟩) (fun _ => rfl) (.int .i64 m.dst)).set (p := ⟨w.heap.size + 1, 4, none⟩) (fun _ => rfl) (.int .i64 m.op)).set (p := ⟨w.heap.size + 1, 5, none⟩) (fun _ => rfl) (.int .i64 m.commit)).set (p := ⟨w.heap.size + 1, 6, none⟩) (fun _ => rfl) (.int .i64 m.normal)).set (p := ⟨w.heap.size + 1, 7, none⟩) (fun _ => rfl) (.slice A' m.log.length c')))))
  -- 0: t3 := fieldAddr 43 t1 0 : 0
  refine wpB_take (i := 0) (v := ?_) (get_of_drop rfl) (by kernel_rfl) (by kernel_rfl) (by kernel_rfl) (by kernel_rfl) (fun _ _ _ h => h) (Or.inl ⟨by rfl, ?_⟩) hHeld ?_
  rotate_left
  · (intro w hSw; (try dsimp only at hSw); go_simp <;> with_reducible rfl)
  try simp only [Act.put, List.setIfInBounds_toArray, List.set_cons_zero, List.set_cons_succ]
  -- 1: t4 := load 3 t3 : 3
  refine wpB_take (i := 1) (v := ?_) (get_of_drop rfl) (by kernel_rfl) (by kernel_rfl) (by kernel_rfl) (by kernel_rfl) (fun _ _ _ h => h) (Or.inl ⟨by rfl, ?_⟩) hHeld ?_
  rotate_left
  · (intro w hSw; (try dsimp only at hSw); go_simp <;> with_reducible rfl)
  try simp only [Act.put, List.setIfInBounds_toArray, List.set_cons_zero, List.set_cons_succ]
  -- 2: t5 := fieldAddr 43 t1 1 : 0
  refine wpB_take (i := 2) (v := ?_) (get_of_drop rfl) (by kernel_rfl) (by kernel_rfl) (by kernel_rfl) (by kernel_rfl) (fun _ _ _ h => h) (Or.inl ⟨by rfl, ?_⟩) hHeld ?_
  rotate_left
  · (intro w hSw; (try dsimp only at hSw); go_simp <;> with_reducible rfl)
  try simp only [Act.put, List.setIfInBounds_toArray, List.set_cons_zero, List.set_cons_succ]
  -- 3: t6 := load 3 t5 : 3
  refine wpB_take (i := 3) (v := ?_) (get_of_drop rfl) (by kernel_rfl) (by kernel_rfl) (by kernel_rfl) (by kernel_rfl) (fun _ _ _ h => h) (Or.inl ⟨by rfl, ?_⟩) hHeld ?_
  rotate_left
  · (intro w hSw; (try dsimp only at hSw); go_simp <;> with_reducible rfl)
  try simp only [Act.put, List.setIfInBounds_toArray, List.set_cons_zero, List.set_cons_succ]
  -- 4: t7 := fieldAddr 43 t1 2 : 0
  refine wpB_take (i := 4) (v := ?_) (get_of_drop rfl) (by kernel_rfl) (by kernel_rfl) (by kernel_rfl) (by kernel_rfl) (fun _ _ _ h => h) (Or.inl ⟨by rfl, ?_⟩) hHeld ?_
  rotate_left
  · (intro w hSw; (try dsimp only at hSw); go_simp <;> with_reducible rfl)
  try simp only [Act.put, List.setIfInBounds_toArray, List.set_cons_zero, List.set_cons_succ]
  -- 5: t8 := load 3 t7 : 3
  refine wpB_take (i := 5) (v := ?_) (get_of_drop rfl) (by kernel_rfl) (by kernel_rfl) (by kernel_rfl) (by kernel_rfl) (fun _ _ _ h => h) (Or.inl ⟨by rfl, ?_⟩) hHeld ?_
  rotate_left
  · (intro w hSw; (try dsimp only at hSw); go_simp <;> with_reducible rfl)
  try simp only [Act.put, List.setIfInBounds_toArray, List.set_cons_zero, List.set_cons_succ]
  -- 6: t9 := fieldAddr 43 t1 3 : 0
  refine wpB_take (i := 6) (v := ?_) (get_of_drop rfl) (by kernel_rfl) (by kernel_rfl) (by kernel_rfl) (by kernel_rfl) (fun _ _ _ h => h) (Or.inl ⟨by rfl, ?_⟩) hHeld ?_
  rotate_left
  · (intro w hSw; (try dsimp only at hSw); go_simp <;> with_reducible rfl)
  try simp only [Act.put, List.setIfInBounds_toArray, List.set_cons_zero, List.set_cons_succ]
  -- 7: t10 := load 3 t9 : 3
  refine wpB_take (i := 7) (v := ?_) (get_of_drop rfl) (by kernel_rfl) (by kernel_rfl) (by kernel_rfl) (by kernel_rfl) (fun _ _ _ h => h) (Or.inl ⟨by rfl, ?_⟩) hHeld ?_
  rotate_left
  · (intro w hSw; (try dsimp only at hSw); go_simp <;> with_reducible rfl)
  try simp only [Act.put, List.setIfInBounds_toArray, List.set_cons_zero, List.set_cons_succ]
  -- 8: t11 := fieldAddr 43 t1 4 : 0
  refine wpB_take (i := 8) (v := ?_) (get_of_drop rfl) (by kernel_rfl) (by kernel_rfl) (by kernel_rfl) (by kernel_rfl) (fun _ _ _ h => h) (Or.inl ⟨by rfl, ?_⟩) hHeld ?_
  rotate_left
  · (intro w hSw; (try dsimp only at hSw); go_simp <;> with_reducible rfl)
  try simp only [Act.put, List.setIfInBounds_toArray, List.set_cons_zero, List.set_cons_succ]
  -- 9: t12 := load 3 t11 : 3
  refine wpB_take (i := 9) (v := ?_) (get_of_drop rfl) (by kernel_rfl) (by kernel_rfl) (by kernel_rfl) (by kernel_rfl) (fun _ _ _ h => h) (Or.inl ⟨by rfl, ?_⟩) hHeld ?_
  rotate_left
  · (intro w hSw; (try dsimp only at hSw); go_simp <;> with_reducible rfl)
  try simp only [Act.put, List.setIfInBounds_toArray, List.set_cons_zero, List.set_cons_succ]
  -- 10: t13 := fieldAddr 43 t1 5 : 0
  refine wpB_take (i := 10) (v := ?_) (get_of_drop rfl) (by kernel_rfl) (by kernel_rfl) (by kernel_rfl) (by kernel_rfl) (fun _ _ _ h => h) (Or.inl ⟨by rfl, ?_⟩) hHeld ?_
  rotate_left
  · (intro w hSw; (try dsimp only at hSw); go_simp <;> with_reducible rfl)
  try simp only [Act.put, List.setIfInBounds_toArray, List.set_cons_zero, List.set_cons_succ]
  -- 11: t14 := load 3 t13 : 3
  refine wpB_take (i := 11) (v := ?_) (get_of_drop rfl) (by kernel_rfl) (by kernel_rfl) (by kernel_rfl) (by kernel_rfl) (fun _ _ _ h => h) (Or.inl ⟨by rfl, ?_⟩) hHeld ?_
  rotate_left
  · (intro w hSw; (try dsimp only at hSw); go_simp <;> with_reducible rfl)
  try simp only [Act.put, List.setIfInBounds_toArray, List.set_cons_zero, List.set_cons_succ]
  -- 12: t15 := fieldAddr 43 t1 6 : 0
  refine wpB_take (i := 12) (v := ?_) (get_of_drop rfl) (by kernel_rfl) (by kernel_rfl) (by kernel_rfl) (by kernel_rfl) (fun _ _ _ h => h) (Or.inl ⟨by rfl, ?_⟩) hHeld ?_
  rotate_left
  · (intro w hSw; (try dsimp only at hSw); go_simp <;> with_reducible rfl)
  try simp only [Act.put, List.setIfInBounds_toArray, List.set_cons_zero, List.set_cons_succ]
  -- 13: t16 := load 3 t15 : 3
  refine wpB_take (i := 13) (v := ?_) (get_of_drop rfl) (by kernel_rfl) (by kernel_rfl) (by kernel_rfl) (by kernel_rfl) (fun _ _ _ h => h) (Or.inl ⟨by rfl, ?_⟩) hHeld ?_
  rotate_left
  · (intro w hSw; (try dsimp only at hSw); go_simp <;> with_reducible rfl)
  try simp only [Act.put, List.setIfInBounds_toArray, List.set_cons_zero, List.set_cons_succ]
  -- 14: t17 := fieldAddr 43 t1 7 : 0
  refine wpB_take (i := 14) (v := ?_) (get_of_drop rfl) (by kernel_rfl) (by kernel_rfl) (by kernel_rfl) (by kernel_rfl) (fun _ _ _ h => h) (Or.inl ⟨by rfl, ?_⟩) hHeld ?_
  rotate_left
  · (intro w hSw; (try dsimp only at hSw); go_simp <;> with_reducible rfl)
  try simp only [Act.put, List.setIfInBounds_toArray, List.set_cons_zero, List.set_cons_succ]
  -- 15: t18 := load 22 t17 : 22
  refine wpB_take (i := 15) (v := ?_) (get_of_drop rfl) (by kernel_rfl) (by kernel_rfl) (by kernel_rfl) (by kernel_rfl) (fun _ _ _ h => h) (Or.inl ⟨by rfl, ?_⟩) hHeld ?_
  rotate_left
  · (intro w hSw; (try dsimp only at hSw); go_simp <;> with_reducible rfl)
  try simp only [Act.put, List.setIfInBounds_toArray, List.set_cons_zero, List.set_cons_succ]
  -- 16: t19 := CALL fn30(t18) : 28
  refine wpB_act (i := 16) (by kernel_rfl) (get_of_drop rfl) (fun K hK => ?_)
  go_simp
  refine (entries_any ((HL0.out.chg (Chg.refl (fun _ => False) w0).drew (fun _ _ h => h))) hn HPUT.out).mono ?_
  rintro e' wy ⟨A', c', rfl, hat, hcy⟩
  have HZ := hid hcy
  have HAT := hid hat
  have yz0 : wy.cell? ⟨w.heap.size + 1, 0, none⟩ = some (.int .i64 0) := hcy.cell (show w0.drew.cell? _ = _ from (cellAt T0.out 0).trans rfl) (fun h => h)
  have fz0 : wy.frozen? ⟨w.heap.size + 1, 0, none⟩ = false := freeAt (hcy.blk (show w0.drew.heap[w.heap.size + 1]? = _ from T0.out) (fun h => h)) 0
  have yz1 : wy.cell? ⟨w.heap.size + 1, 1, none⟩ = some (.int .i64 0) := hcy.cell (show w0.drew.cell? _ = _ from (cellAt T0.out 1).trans rfl) (fun h => h)
  have fz1 : wy.frozen? ⟨w.heap.size + 1, 1, none⟩ = false := freeAt (hcy.blk (show w0.drew.heap[w.heap.size + 1]? = _ from T0.out) (fun h => h)) 1
  have yz2 : wy.cell? ⟨w.heap.size + 1, 2, none⟩ = some (.int .i64 0) := hcy.cell (show w0.drew.cell? _ = _ from (cellAt T0.out 2).trans rfl) (fun h => h)
  have fz2 : wy.frozen? ⟨w.heap.size + 1, 2, none⟩ = false := freeAt (hcy.blk (show w0.drew.heap[w.heap.size + 1]? = _ from T0.out) (fun h => h)) 2
  have yz3 : wy.cell? ⟨w.heap.size + 1, 3, none⟩ = some (.int .i64 0) := hcy.cell (show w0.drew.cell? _ = _ from (cellAt T0.out 3).trans rfl) (fun h => h)
  have fz3 : wy.frozen? ⟨w.heap.size + 1, 3, none⟩ = false := freeAt (hcy.blk (show w0.drew.heap[w.heap.size + 1]? = _ from T0.out) (fun h => h)) 3
  have yz4 : wy.cell? ⟨w.heap.size + 1, 4, none⟩ = some (.int .i64 0) := hcy.cell (show w0.drew.cell? _ = _ from (cellAt T0.out 4).trans rfl) (fun h => h)
  have fz4 : wy.frozen? ⟨w.heap.size + 1, 4, none⟩ = false := freeAt (hcy.blk (show w0.drew.heap[w.heap.size + 1]? = _ from T0.out) (fun h => h)) 4
  have yz5 : wy.cell? ⟨w.heap.size + 1, 5, none⟩ = some (.int .i64 0) := hcy.cell (show w0.drew.cell? _ = _ from (cellAt T0.out 5).trans rfl) (fun h => h)
  have fz5 : wy.frozen? ⟨w.heap.size + 1, 5, none⟩ = false := freeAt (hcy.blk (show w0.drew.heap[w.heap.size + 1]? = _ from T0.out) (fun h => h)) 5
  have yz6 : wy.cell? ⟨w.heap.size + 1, 6, none⟩ = some (.int .i64 0) := hcy.cell (show w0.drew.cell? _ = _ from (cellAt T0.out 6).trans rfl) (fun h => h)
  have fz6 : wy.frozen? ⟨w.heap.size + 1, 6, none⟩ = false := freeAt (hcy.blk (show w0.drew.heap[w.heap.size + 1]? = _ from T0.out) (fun h => h)) 6
  have yz7 : wy.cell? ⟨w.heap.size + 1, 7, none⟩ = some (.slice none 0 0) := hcy.cell (show w0.drew.cell? _ = _ from (cellAt T0.out 7).trans rfl) (fun h => h)
  have fz7 : wy.frozen? ⟨w.heap.size + 1, 7, none⟩ = false := freeAt (hcy.blk (show w0.drew.heap[w.heap.size + 1]? = _ from T0.out) (fun h => h)) 7
  clear hcy hat
  refine hK.out _ _ ?_ (fun hHeld2 => ?_)
  · (first | (with_reducible exact hHeld.trans HZ.out (fun _ h _ => h.elim)) | (with_reducible exact ((((((((hHeld.set (p := ⟨w.heap.size + 1, 0, none⟩) (fun _ => rfl) (.int .i64 m.kind)).set (p := ⟨w.heap.size + 1, 1, none⟩) (fun _ => rfl) (.int .i64 m.view)).set (p := ⟨w.heap.size + 1, 2, none⟩) (fun _ => rfl) (.int .i64 m.src)).set (p := ⟨w.heap.size + 1, 3, none⟩) (fun _ => rfl) (.int .i64 m.dst)).set (p := ⟨w.heap.size + 1, 4, none⟩) (fun _ => rfl) (.int .i64 m.op)).set (p := ⟨w.heap.size + 1, 5, none⟩) (fun _ => rfl) (.int .i64 m.commit)).set (p := ⟨w.heap.size + 1, 6, none⟩) (fun _ => rfl) (.int .i64 m.normal)).set (p := ⟨w.heap.size + 1, 7, none⟩) (fun _ => rfl) (.slice A' m.log.length c'))))
  clear hHeld hK K
  have hHeld := hHeld2
  clear hHeld2
  try simp only [Act.put, List.setIfInBounds_toArray, List.set_cons_zero, List.set_cons_succ]
  -- 17: t20 := build 47 [⟨0, t4⟩, ⟨1, t6⟩, ⟨2, t8⟩, ⟨3, t10⟩, ⟨4, t12⟩, ⟨5, t14⟩, ⟨6, t16⟩, ⟨7, t19⟩] : 47
  refine wpB_take (i := 17) (v := ?_) (get_of_drop rfl) (by kernel_rfl) (by kernel_rfl) (by kernel_rfl) (by kernel_rfl) (fun _ _ _ h => h) (Or.inl ⟨by rfl, ?_⟩) hHeld ?_
  rotate_left
  · (intro w hSw; (try dsimp only at hSw); go_simp <;> with_reducible rfl)
  try simp only [Act.put, List.setIfInBounds_toArray, List.set_cons_zero, List.set_cons_succ]
  -- 18: t- := store 47 t2 t20 : 0 (BARRIER)
  refine wpB_bar (i := 18) (by kernel_rfl) (get_of_drop rfl) (by kernel_rfl) (fun K hK => ?_)
  go_simp
  refine hK.out _ _ (fun _ : World => True) ?_
  clear hHeld hK K
  have hHeld := trivial
  try simp only [Act.put, List.setIfInBounds_toArray, List.set_cons_zero, List.set_cons_succ]
  refine wpB_done (by kernel_rfl) ?_ _
  clear hHeld x0 x1 x2 x3 x4 x5 x6 x7 yz0 fz0 yz1 fz1 yz2 fz2 yz3 fz3 yz4 fz4 yz5 fz5 yz6 fz6 yz7 fz7
  go_wp2_with fail
  have CY := hid (show Chg (fun _ => False) w0 wy from (Chg.refl (fun _ => False) w0).drew.trans HZ.out (fun _ h _ => h))
  obtain ⟨PB, PC⟩ := put_blk [Value.int .i64 m.kind, Value.int .i64 m.view, Value.int .i64 m.src, Value.int .i64 m.dst, Value.int .i64 m.op, Value.int .i64 m.commit, Value.int .i64 m.normal, Value.slice A' m.log.length c'] wy _ (CY.out.blk T0.out (fun h => h)) rfl
  generalize hW : ((((((((wy.setCell ⟨w.heap.size + 1, 0, none⟩ (.int .i64 m.kind)).setCell ⟨w.heap.size + 1, 1, none⟩ (.int .i64 m.view)).setCell ⟨w.heap.size + 1, 2, none⟩ (.int .i64 m.src)).setCell ⟨w.heap.size + 1, 3, none⟩ (.int .i64 m.dst)).setCell ⟨w.heap.size + 1, 4, none⟩ (.int .i64 m.op)).setCell ⟨w.heap.size + 1, 5, none⟩ (.int .i64 m.commit)).setCell ⟨w.heap.size + 1, 6, none⟩ (.int .i64 m.normal)).setCell ⟨w.heap.size + 1, 7, none⟩ (.slice A' m.log.length c')) = W
  have PB' : W.heap[w.heap.size + 1]? = some (.cells #[.int .i64 m.kind, .int .i64 m.view, .int .i64 m.src, .int .i64 m.dst, .int .i64 m.op, .int .i64 m.commit, .int .i64 m.normal, .slice A' m.log.length c'] 47 (0, 0)) := by rw [← hW]; exact PB
  have PC' : Chg (fun k => k = w.heap.size + 1) wy W := by rw [← hW]; exact PC
  clear PB PC hW
  have z0 : W.cell? ⟨w.heap.size + 1, 0, none⟩ = some (.int .i64 m.kind) := (cellAt PB' 0).trans rfl
  have z1 : W.cell? ⟨w.heap.size + 1, 1, none⟩ = some (.int .i64 m.view) := (cellAt PB' 1).trans rfl
  have z2 : W.cell? ⟨w.heap.size + 1, 2, none⟩ = some (.int .i64 m.src) := (cellAt PB' 2).trans rfl
  have z3 : W.cell? ⟨w.heap.size + 1, 3, none⟩ = some (.int .i64 m.dst) := (cellAt PB' 3).trans rfl
  have z4 : W.cell? ⟨w.heap.size + 1, 4, none⟩ = some (.int .i64 m.op) := (cellAt PB' 4).trans rfl
  have z5 : W.cell? ⟨w.heap.size + 1, 5, none⟩ = some (.int .i64 m.commit) := (cellAt PB' 5).trans rfl
  have z6 : W.cell? ⟨w.heap.size + 1, 6, none⟩ = some (.int .i64 m.normal) := (cellAt PB' 6).trans rfl
  have z7 : W.cell? ⟨w.heap.size + 1, 7, none⟩ = some (.slice A' m.log.length c') := (cellAt PB' 7).trans rfl
  refine bodyPost_ret (v := .agg #[.int .i64 m.kind, .int .i64 m.view, .int .i64 m.src, .int .i64 m.dst, .int .i64 m.op, .int .i64 m.commit, .int .i64 m.normal, .slice A' m.log.length c']) (by simp [results, Try.results22, go_sem, z0, z1, z2, z3, z4, z5, z6, z7]) rfl ?_
  have s0 := C0.out.size
  have t0 := lt_of_blk T0.out
  refine ⟨A', c', rfl, (HAT.out.bound.chg PC' (fun k hk e => ?_)).mono (fun k hk => ?_), ((C0.out.trans CY.out (fun _ h _ => h)).trans PC' (fun k hk hl => by omega))⟩
  · subst e
    rcases hk.1 with q | q
    · have := q.1.2; omega
    · have q1 : w0.heap.size ≤ w.heap.size + 1 := q; omega
  · rcases hk.1 with q | q
    · exact .inl ⟨q.1.1, q.1.2⟩
    · exact .inr (Nat.le_trans s0 q)

def MadeRec (R : Nat → Prop) (m : Rec) (w : World) (e' : Ending) (w' : World) : Prop :=
  ∃ A' c', e' = .returned (.agg #[.int .i64 m.kind, .int .i64 m.a, .int .i64 m.b, .slice A' m.log.length c']) ∧ Ty.At entryK w' (fun k => (R k ∧ k < w.heap.size) ∨ w.heap.size ≤ k) A' m.log.length c' m.log ∧ Chg (fun _ => False) w w'
set_option maxHeartbeats 4000000 in
set_option maxRecDepth 100000 in
theorem maderec_any {w : World} {R : Nat → Prop} {m : Rec} {A : Option Addr} {n c : Nat} (hl : Ty.At entryK w R A n c m.log) (hn : n ≤ 1000000) (hput : ∀ e ∈ m.log, e.put.length ≤ 1000000) :
    Calls Try.prog 12 #[.agg #[.int .i64 m.kind, .int .i64 m.a, .int .i64 m.b, .slice A n c]] w (MadeRec R m w) := by
  obtain ⟨w0, hw0⟩ : ∃ w0, w0 = (w.alloc (.cells #[.int .i64 m.kind, .int .i64 m.a, .int .i64 m.b, .slice A n c] 24)).alloc (.cells #[.int .i64 0, .int .i64 0, .int .i64 0, .slice none 0 0] 30) := ⟨_, rfl⟩
  have C0 := hid (show Chg (fun _ => False) w w0 by rw [hw0]; exact ((Chg.refl _ w).alloc _).alloc _)
  have B0 := hid (show w0.heap[w.heap.size]? = some (.cells #[.int .i64 m.kind, .int .i64 m.a, .int .i64 m.b, .slice A n c] 24 (0, 0)) by rw [hw0]; exact blk_alloc (blk_new w _) _)
  have T0 := hid (show w0.heap[w.heap.size + 1]? = some (.cells #[.int .i64 0, .int .i64 0, .int .i64 0, .slice none 0 0] 30 (0, 0)) by
    rw [hw0]
    have := blk_new (w.alloc (.cells #[.int .i64 m.kind, .int .i64 m.a, .int .i64 m.b, .slice A n c] 24)) (.cells #[.int .i64 0, .int .i64 0, .int .i64 0, .slice none 0 0] 30)
    simpa using this)
  have HL := hid hl
  have HL0 := hid (hl.bound.chg C0.out (fun _ _ h => h))
  have HPUT := hid hput
  have x0 : ∀ wx, Chg (fun k => k = w.heap.size + 1) w0 wx → wx.cell? ⟨w.heap.size, 0, none⟩ = some (.int .i64 m.kind) := fun wx hx => hx.cell (by rw [cellAt B0.out]; rfl) (by show ¬ w.heap.size = _; omega)
  have x1 : ∀ wx, Chg (fun k => k = w.heap.size + 1) w0 wx → wx.cell? ⟨w.heap.size, 1, none⟩ = some (.int .i64 m.a) := fun wx hx => hx.cell (by rw [cellAt B0.out]; rfl) (by show ¬ w.heap.size = _; omega)
  have x2 : ∀ wx, Chg (fun k => k = w.heap.size + 1) w0 wx → wx.cell? ⟨w.heap.size, 2, none⟩ = some (.int .i64 m.b) := fun wx hx => hx.cell (by rw [cellAt B0.out]; rfl) (by show ¬ w.heap.size = _; omega)
  have x3 : ∀ wx, Chg (fun k => k = w.heap.size + 1) w0 wx → wx.cell? ⟨w.heap.size, 3, none⟩ = some (.slice A n c) := fun wx hx => hx.cell (by rw [cellAt B0.out]; rfl) (by show ¬ w.heap.size = _; omega)
  clear hl hput
  go_enter Try.func12, Try.ntmps12
  go_wp2_with fail
  rw [← hw0]
  clear hw0
  refine wpB_start (fun wx : World => Chg (fun k => k = w.heap.size + 1) w0 wx) (by kernel_rfl) ?_
  have hHeld : (fun wx : World => Chg (fun k => k = w.heap.size + 1) w0 wx) _ := (by first | assumption | exact Chg.drew (Chg.refl _ _) | (show _ ∧ _; refine ⟨?_, ?_⟩ <;> assumption) | (first | (with_reducible exact hHeld.trans HZ.out (fun _ h _ => h.elim)) | (with_reducible exact ((((hHeld.set (p := ⟨w.heap.size + 1, 0, none⟩) (fun _ => rfl) (.int .i64 m.kind)).set (p := ⟨w.heap.size + 1, 1, none⟩) (fun _ => rfl) (.int .i64 m.a)).set (p := ⟨w.heap.size + 1, 2, none⟩) (fun _ => rfl) (.int .i64 m.b)).set (p := ⟨w.heap.size + 1, 3, none⟩) (fun _ => rfl) (.slice A' m.log.length c')))))
  -- 0: t3 := fieldAddr 24 t1 0 : 0
  refine wpB_take (i := 0) (v := ?_) (get_of_drop rfl) (by kernel_rfl) (by kernel_rfl) (by kernel_rfl) (by kernel_rfl) (fun _ _ _ h => h) (Or.inl ⟨by rfl, ?_⟩) hHeld ?_
  rotate_left
  · (intro w hSw; (try dsimp only at hSw); go_simp <;> with_reducible rfl)
  try simp only [Act.put, List.setIfInBounds_toArray, List.set_cons_zero, List.set_cons_succ]
  -- 1: t4 := load 3 t3 : 3
  refine wpB_take (i := 1) (v := ?_) (get_of_drop rfl) (by kernel_rfl) (by kernel_rfl) (by kernel_rfl) (by kernel_rfl) (fun _ _ _ h => h) (Or.inl ⟨by rfl, ?_⟩) hHeld ?_
  rotate_left
  · (intro w hSw; (try dsimp only at hSw); go_simp <;> with_reducible rfl)
  try simp only [Act.put, List.setIfInBounds_toArray, List.set_cons_zero, List.set_cons_succ]
  -- 2: t5 := fieldAddr 24 t1 1 : 0
  refine wpB_take (i := 2) (v := ?_) (get_of_drop rfl) (by kernel_rfl) (by kernel_rfl) (by kernel_rfl) (by kernel_rfl) (fun _ _ _ h => h) (Or.inl ⟨by rfl, ?_⟩) hHeld ?_
  rotate_left
  · (intro w hSw; (try dsimp only at hSw); go_simp <;> with_reducible rfl)
  try simp only [Act.put, List.setIfInBounds_toArray, List.set_cons_zero, List.set_cons_succ]
  -- 3: t6 := load 3 t5 : 3
  refine wpB_take (i := 3) (v := ?_) (get_of_drop rfl) (by kernel_rfl) (by kernel_rfl) (by kernel_rfl) (by kernel_rfl) (fun _ _ _ h => h) (Or.inl ⟨by rfl, ?_⟩) hHeld ?_
  rotate_left
  · (intro w hSw; (try dsimp only at hSw); go_simp <;> with_reducible rfl)
  try simp only [Act.put, List.setIfInBounds_toArray, List.set_cons_zero, List.set_cons_succ]
  -- 4: t7 := fieldAddr 24 t1 2 : 0
  refine wpB_take (i := 4) (v := ?_) (get_of_drop rfl) (by kernel_rfl) (by kernel_rfl) (by kernel_rfl) (by kernel_rfl) (fun _ _ _ h => h) (Or.inl ⟨by rfl, ?_⟩) hHeld ?_
  rotate_left
  · (intro w hSw; (try dsimp only at hSw); go_simp <;> with_reducible rfl)
  try simp only [Act.put, List.setIfInBounds_toArray, List.set_cons_zero, List.set_cons_succ]
  -- 5: t8 := load 3 t7 : 3
  refine wpB_take (i := 5) (v := ?_) (get_of_drop rfl) (by kernel_rfl) (by kernel_rfl) (by kernel_rfl) (by kernel_rfl) (fun _ _ _ h => h) (Or.inl ⟨by rfl, ?_⟩) hHeld ?_
  rotate_left
  · (intro w hSw; (try dsimp only at hSw); go_simp <;> with_reducible rfl)
  try simp only [Act.put, List.setIfInBounds_toArray, List.set_cons_zero, List.set_cons_succ]
  -- 6: t9 := fieldAddr 24 t1 3 : 0
  refine wpB_take (i := 6) (v := ?_) (get_of_drop rfl) (by kernel_rfl) (by kernel_rfl) (by kernel_rfl) (by kernel_rfl) (fun _ _ _ h => h) (Or.inl ⟨by rfl, ?_⟩) hHeld ?_
  rotate_left
  · (intro w hSw; (try dsimp only at hSw); go_simp <;> with_reducible rfl)
  try simp only [Act.put, List.setIfInBounds_toArray, List.set_cons_zero, List.set_cons_succ]
  -- 7: t10 := load 22 t9 : 22
  refine wpB_take (i := 7) (v := ?_) (get_of_drop rfl) (by kernel_rfl) (by kernel_rfl) (by kernel_rfl) (by kernel_rfl) (fun _ _ _ h => h) (Or.inl ⟨by rfl, ?_⟩) hHeld ?_
  rotate_left
  · (intro w hSw; (try dsimp only at hSw); go_simp <;> with_reducible rfl)
  try simp only [Act.put, List.setIfInBounds_toArray, List.set_cons_zero, List.set_cons_succ]
  -- 8: t11 := CALL fn30(t10) : 28
  refine wpB_act (i := 8) (by kernel_rfl) (get_of_drop rfl) (fun K hK => ?_)
  go_simp
  refine (entries_any ((HL0.out.chg (Chg.refl (fun _ => False) w0).drew (fun _ _ h => h))) hn HPUT.out).mono ?_
  rintro e' wy ⟨A', c', rfl, hat, hcy⟩
  have HZ := hid hcy
  have HAT := hid hat
  have yz0 : wy.cell? ⟨w.heap.size + 1, 0, none⟩ = some (.int .i64 0) := hcy.cell (show w0.drew.cell? _ = _ from (cellAt T0.out 0).trans rfl) (fun h => h)
  have fz0 : wy.frozen? ⟨w.heap.size + 1, 0, none⟩ = false := freeAt (hcy.blk (show w0.drew.heap[w.heap.size + 1]? = _ from T0.out) (fun h => h)) 0
  have yz1 : wy.cell? ⟨w.heap.size + 1, 1, none⟩ = some (.int .i64 0) := hcy.cell (show w0.drew.cell? _ = _ from (cellAt T0.out 1).trans rfl) (fun h => h)
  have fz1 : wy.frozen? ⟨w.heap.size + 1, 1, none⟩ = false := freeAt (hcy.blk (show w0.drew.heap[w.heap.size + 1]? = _ from T0.out) (fun h => h)) 1
  have yz2 : wy.cell? ⟨w.heap.size + 1, 2, none⟩ = some (.int .i64 0) := hcy.cell (show w0.drew.cell? _ = _ from (cellAt T0.out 2).trans rfl) (fun h => h)
  have fz2 : wy.frozen? ⟨w.heap.size + 1, 2, none⟩ = false := freeAt (hcy.blk (show w0.drew.heap[w.heap.size + 1]? = _ from T0.out) (fun h => h)) 2
  have yz3 : wy.cell? ⟨w.heap.size + 1, 3, none⟩ = some (.slice none 0 0) := hcy.cell (show w0.drew.cell? _ = _ from (cellAt T0.out 3).trans rfl) (fun h => h)
  have fz3 : wy.frozen? ⟨w.heap.size + 1, 3, none⟩ = false := freeAt (hcy.blk (show w0.drew.heap[w.heap.size + 1]? = _ from T0.out) (fun h => h)) 3
  clear hcy hat
  refine hK.out _ _ ?_ (fun hHeld2 => ?_)
  · (first | (with_reducible exact hHeld.trans HZ.out (fun _ h _ => h.elim)) | (with_reducible exact ((((hHeld.set (p := ⟨w.heap.size + 1, 0, none⟩) (fun _ => rfl) (.int .i64 m.kind)).set (p := ⟨w.heap.size + 1, 1, none⟩) (fun _ => rfl) (.int .i64 m.a)).set (p := ⟨w.heap.size + 1, 2, none⟩) (fun _ => rfl) (.int .i64 m.b)).set (p := ⟨w.heap.size + 1, 3, none⟩) (fun _ => rfl) (.slice A' m.log.length c'))))
  clear hHeld hK K
  have hHeld := hHeld2
  clear hHeld2
  try simp only [Act.put, List.setIfInBounds_toArray, List.set_cons_zero, List.set_cons_succ]
  -- 9: t12 := build 30 [⟨0, t4⟩, ⟨1, t6⟩, ⟨2, t8⟩, ⟨3, t11⟩] : 30
  refine wpB_take (i := 9) (v := ?_) (get_of_drop rfl) (by kernel_rfl) (by kernel_rfl) (by kernel_rfl) (by kernel_rfl) (fun _ _ _ h => h) (Or.inl ⟨by rfl, ?_⟩) hHeld ?_
  rotate_left
  · (intro w hSw; (try dsimp only at hSw); go_simp <;> with_reducible rfl)
  try simp only [Act.put, List.setIfInBounds_toArray, List.set_cons_zero, List.set_cons_succ]
  -- 10: t- := store 30 t2 t12 : 0 (BARRIER)
  refine wpB_bar (i := 10) (by kernel_rfl) (get_of_drop rfl) (by kernel_rfl) (fun K hK => ?_)
  go_simp
  refine hK.out _ _ (fun _ : World => True) ?_
  clear hHeld hK K
  have hHeld := trivial
  try simp only [Act.put, List.setIfInBounds_toArray, List.set_cons_zero, List.set_cons_succ]
  refine wpB_done (by kernel_rfl) ?_ _
  clear hHeld x0 x1 x2 x3 yz0 fz0 yz1 fz1 yz2 fz2 yz3 fz3
  go_wp2_with fail
  have CY := hid (show Chg (fun _ => False) w0 wy from (Chg.refl (fun _ => False) w0).drew.trans HZ.out (fun _ h _ => h))
  obtain ⟨PB, PC⟩ := put_blk [Value.int .i64 m.kind, Value.int .i64 m.a, Value.int .i64 m.b, Value.slice A' m.log.length c'] wy _ (CY.out.blk T0.out (fun h => h)) rfl
  generalize hW : ((((wy.setCell ⟨w.heap.size + 1, 0, none⟩ (.int .i64 m.kind)).setCell ⟨w.heap.size + 1, 1, none⟩ (.int .i64 m.a)).setCell ⟨w.heap.size + 1, 2, none⟩ (.int .i64 m.b)).setCell ⟨w.heap.size + 1, 3, none⟩ (.slice A' m.log.length c')) = W
  have PB' : W.heap[w.heap.size + 1]? = some (.cells #[.int .i64 m.kind, .int .i64 m.a, .int .i64 m.b, .slice A' m.log.length c'] 30 (0, 0)) := by rw [← hW]; exact PB
  have PC' : Chg (fun k => k = w.heap.size + 1) wy W := by rw [← hW]; exact PC
  clear PB PC hW
  have z0 : W.cell? ⟨w.heap.size + 1, 0, none⟩ = some (.int .i64 m.kind) := (cellAt PB' 0).trans rfl
  have z1 : W.cell? ⟨w.heap.size + 1, 1, none⟩ = some (.int .i64 m.a) := (cellAt PB' 1).trans rfl
  have z2 : W.cell? ⟨w.heap.size + 1, 2, none⟩ = some (.int .i64 m.b) := (cellAt PB' 2).trans rfl
  have z3 : W.cell? ⟨w.heap.size + 1, 3, none⟩ = some (.slice A' m.log.length c') := (cellAt PB' 3).trans rfl
  refine bodyPost_ret (v := .agg #[.int .i64 m.kind, .int .i64 m.a, .int .i64 m.b, .slice A' m.log.length c']) (by simp [results, Try.results12, go_sem, z0, z1, z2, z3]) rfl ?_
  have s0 := C0.out.size
  have t0 := lt_of_blk T0.out
  refine ⟨A', c', rfl, (HAT.out.bound.chg PC' (fun k hk e => ?_)).mono (fun k hk => ?_), ((C0.out.trans CY.out (fun _ h _ => h)).trans PC' (fun k hk hl => by omega))⟩
  · subst e
    rcases hk.1 with q | q
    · have := q.1.2; omega
    · have q1 : w0.heap.size ≤ w.heap.size + 1 := q; omega
  · rcases hk.1 with q | q
    · exact .inl ⟨q.1.1, q.1.2⟩
    · exact .inr (Nat.le_trans s0 q)
end Go.Proofs.Ytcmfgijdelaelaa.Pa
