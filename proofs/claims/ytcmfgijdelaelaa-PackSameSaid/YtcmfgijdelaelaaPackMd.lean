
/- What the statements ask of messages and records: are they alike? -/

import Derived.Test.YtcmfgijdelaelaaPackMc

import Derived.Test.YtcmfgijdelaelaaPackSd

namespace Go.Proofs.Ytcmfgijdelaelaa.Pa

set_option linter.unusedVariables false

set_option linter.unusedSimpArgs false

open Go.RowKit Go.Proofs.Ytcmfgijdelaelaa.C

attribute [local go_sem] max2_int min2_int max_two min_two

deriving instance DecidableEq for Msg
deriving instance DecidableEq for Rec
theorem msg_dec (m x : Msg) : decide (m = x) = (m.kind == x.kind && m.view == x.view && m.src == x.src && m.dst == x.dst && m.op == x.op && m.commit == x.commit && m.normal == x.normal && decide (m.log = x.log)) := by
  cases m
  cases x
  rw [Bool.eq_iff_iff]
  simp [and_assoc]
theorem rec_dec (m x : Rec) : decide (m = x) = (m.kind == x.kind && m.a == x.a && m.b == x.b && decide (m.log = x.log)) := by
  cases m
  cases x
  rw [Bool.eq_iff_iff]
  simp [and_assoc]

set_option maxHeartbeats 4000000 in
set_option maxRecDepth 100000 in
theorem likemsg_any {w : World} {R Rx : Nat → Prop} {m x : Msg} {A B : Option Addr} {n c k d : Nat} (hl : Ty.At entryK w R A n c m.log) (hx : Ty.At entryK w Rx B k d x.log) (hn : n ≤ 1000000) (hput : ∀ e ∈ m.log, e.put.length ≤ 1000000) :
    Calls Try.prog 21 #[.agg #[.int .i64 m.kind, .int .i64 m.view, .int .i64 m.src, .int .i64 m.dst, .int .i64 m.op, .int .i64 m.commit, .int .i64 m.normal, .slice A n c], .agg #[.int .i64 x.kind, .int .i64 x.view, .int .i64 x.src, .int .i64 x.dst, .int .i64 x.op, .int .i64 x.commit, .int .i64 x.normal, .slice B k d]] w fun e' w' => e' = .returned (.bool (decide (m = x))) ∧ Chg (fun _ => False) w w' := by
  obtain ⟨w0, hw0⟩ : ∃ w0, w0 = (w.alloc (.cells #[.int .i64 m.kind, .int .i64 m.view, .int .i64 m.src, .int .i64 m.dst, .int .i64 m.op, .int .i64 m.commit, .int .i64 m.normal, .slice A n c] 43)).alloc (.cells #[.int .i64 x.kind, .int .i64 x.view, .int .i64 x.src, .int .i64 x.dst, .int .i64 x.op, .int .i64 x.commit, .int .i64 x.normal, .slice B k d] 47) := ⟨_, rfl⟩
  have C0 := hid (show Chg (fun _ => False) w w0 by rw [hw0]; exact ((Chg.refl _ w).alloc _).alloc _)
  have B0 := hid (show w0.heap[w.heap.size]? = some (.cells #[.int .i64 m.kind, .int .i64 m.view, .int .i64 m.src, .int .i64 m.dst, .int .i64 m.op, .int .i64 m.commit, .int .i64 m.normal, .slice A n c] 43 (0, 0)) by rw [hw0]; exact blk_alloc (blk_new w _) _)
  have X0 := hid (show w0.heap[w.heap.size + 1]? = some (.cells #[.int .i64 x.kind, .int .i64 x.view, .int .i64 x.src, .int .i64 x.dst, .int .i64 x.op, .int .i64 x.commit, .int .i64 x.normal, .slice B k d] 47 (0, 0)) by
    rw [hw0]
    have := blk_new (w.alloc (.cells #[.int .i64 m.kind, .int .i64 m.view, .int .i64 m.src, .int .i64 m.dst, .int .i64 m.op, .int .i64 m.commit, .int .i64 m.normal, .slice A n c] 43)) (.cells #[.int .i64 x.kind, .int .i64 x.view, .int .i64 x.src, .int .i64 x.dst, .int .i64 x.op, .int .i64 x.commit, .int .i64 x.normal, .slice B k d] 47)
    simpa using this)
  have HL0 := hid (hl.chg C0.out (fun _ _ h => h))
  have HX0 := hid (hx.chg C0.out (fun _ _ h => h))
  have HPUT := hid hput
  clear hl hx hput
  have x0 : w0.cell? ⟨w.heap.size, 0, none⟩ = some (.int .i64 m.kind) := (cellAt B0.out 0).trans rfl
  have x1 : w0.cell? ⟨w.heap.size, 1, none⟩ = some (.int .i64 m.view) := (cellAt B0.out 1).trans rfl
  have x2 : w0.cell? ⟨w.heap.size, 2, none⟩ = some (.int .i64 m.src) := (cellAt B0.out 2).trans rfl
  have x3 : w0.cell? ⟨w.heap.size, 3, none⟩ = some (.int .i64 m.dst) := (cellAt B0.out 3).trans rfl
  have x4 : w0.cell? ⟨w.heap.size, 4, none⟩ = some (.int .i64 m.op) := (cellAt B0.out 4).trans rfl
  have x5 : w0.cell? ⟨w.heap.size, 5, none⟩ = some (.int .i64 m.commit) := (cellAt B0.out 5).trans rfl
  have x6 : w0.cell? ⟨w.heap.size, 6, none⟩ = some (.int .i64 m.normal) := (cellAt B0.out 6).trans rfl
  have x7 : w0.cell? ⟨w.heap.size, 7, none⟩ = some (.slice A n c) := (cellAt B0.out 7).trans rfl
  go_enter Try.func21, Try.ntmps21
  go_wp2_with fail
  rw [← hw0]
  clear hw0 x0 x1 x2 x3 x4 x5 x6 x7
  refine (mademsg_any (m := m) HL0.out hn HPUT.out).mono ?_
  rintro e' wy ⟨A', c', rfl, hat, hcy⟩
  have HAT := hid hat
  have CY := hid hcy
  have XY := hid (hcy.blk X0.out (fun h => h))
  have hlt : w.heap.size + 1 < wy.heap.size := lt_of_blk XY.out
  have hne : w.heap.size + 1 ≠ wy.heap.size := by omega
  have CF := hid (C0.out.trans hcy (fun _ h _ => h))
  clear hat hcy
  have y0 : wy.cell? ⟨w.heap.size + 1, 0, none⟩ = some (.int .i64 x.kind) := (cellAt XY.out 0).trans rfl
  have y1 : wy.cell? ⟨w.heap.size + 1, 1, none⟩ = some (.int .i64 x.view) := (cellAt XY.out 1).trans rfl
  have y2 : wy.cell? ⟨w.heap.size + 1, 2, none⟩ = some (.int .i64 x.src) := (cellAt XY.out 2).trans rfl
  have y3 : wy.cell? ⟨w.heap.size + 1, 3, none⟩ = some (.int .i64 x.dst) := (cellAt XY.out 3).trans rfl
  have y4 : wy.cell? ⟨w.heap.size + 1, 4, none⟩ = some (.int .i64 x.op) := (cellAt XY.out 4).trans rfl
  have y5 : wy.cell? ⟨w.heap.size + 1, 5, none⟩ = some (.int .i64 x.commit) := (cellAt XY.out 5).trans rfl
  have y6 : wy.cell? ⟨w.heap.size + 1, 6, none⟩ = some (.int .i64 x.normal) := (cellAt XY.out 6).trans rfl
  have y7 : wy.cell? ⟨w.heap.size + 1, 7, none⟩ = some (.slice B k d) := (cellAt XY.out 7).trans rfl
  cases g0 : (m.kind == x.kind)
  · have G := hid (show decide (m = x) = false by rw [msg_dec, g0]; simp)
    go_wp2_with fail
    go_ret
    exact ⟨by rw [G.out]; rfl, CF.out.alloc _⟩
  cases g1 : (m.view == x.view)
  · have G := hid (show decide (m = x) = false by rw [msg_dec, g1]; simp)
    go_wp2_with fail
    go_ret
    exact ⟨by rw [G.out]; rfl, CF.out.alloc _⟩
  cases g2 : (m.src == x.src)
  · have G := hid (show decide (m = x) = false by rw [msg_dec, g2]; simp)
    go_wp2_with fail
    go_ret
    exact ⟨by rw [G.out]; rfl, CF.out.alloc _⟩
  cases g3 : (m.dst == x.dst)
  · have G := hid (show decide (m = x) = false by rw [msg_dec, g3]; simp)
    go_wp2_with fail
    go_ret
    exact ⟨by rw [G.out]; rfl, CF.out.alloc _⟩
  cases g4 : (m.op == x.op)
  · have G := hid (show decide (m = x) = false by rw [msg_dec, g4]; simp)
    go_wp2_with fail
    go_ret
    exact ⟨by rw [G.out]; rfl, CF.out.alloc _⟩
  cases g5 : (m.commit == x.commit)
  · have G := hid (show decide (m = x) = false by rw [msg_dec, g5]; simp)
    go_wp2_with fail
    go_ret
    exact ⟨by rw [G.out]; rfl, CF.out.alloc _⟩
  cases g6 : (m.normal == x.normal)
  · have G := hid (show decide (m = x) = false by rw [msg_dec, g6]; simp)
    go_wp2_with fail
    go_ret
    exact ⟨by rw [G.out]; rfl, CF.out.alloc _⟩
  have GE := hid (show decide (m = x) = decide (m.log = x.log) by rw [msg_dec, g0, g1, g2, g3, g4, g5, g6]; rfl)
  go_wp2_with fail
  refine (refSame_any (HAT.out.chg ((Chg.refl (fun _ => False) wy).alloc _) (fun _ _ h => h)) ((HX0.out.chg CY.out (fun _ _ h => h)).chg ((Chg.refl (fun _ => False) wy).alloc _) (fun _ _ h => h))).mono ?_
  rintro e' wz ⟨rfl, hz⟩
  have CZ := hid ((CF.out.alloc _).trans hz (fun _ h _ => h))
  clear hz g0 g1 g2 g3 g4 g5 g6 y0 y1 y2 y3 y4 y5 y6 y7
  go_wp2_with fail
  go_ret
  exact ⟨by rw [GE.out]; rfl, CZ.out⟩

set_option maxHeartbeats 4000000 in
set_option maxRecDepth 100000 in
theorem likerec_any {w : World} {R Rx : Nat → Prop} {m x : Rec} {A B : Option Addr} {n c k d : Nat} (hl : Ty.At entryK w R A n c m.log) (hx : Ty.At entryK w Rx B k d x.log) (hn : n ≤ 1000000) (hput : ∀ e ∈ m.log, e.put.length ≤ 1000000) :
    Calls Try.prog 18 #[.agg #[.int .i64 m.kind, .int .i64 m.a, .int .i64 m.b, .slice A n c], .agg #[.int .i64 x.kind, .int .i64 x.a, .int .i64 x.b, .slice B k d]] w fun e' w' => e' = .returned (.bool (decide (m = x))) ∧ Chg (fun _ => False) w w' := by
  obtain ⟨w0, hw0⟩ : ∃ w0, w0 = (w.alloc (.cells #[.int .i64 m.kind, .int .i64 m.a, .int .i64 m.b, .slice A n c] 24)).alloc (.cells #[.int .i64 x.kind, .int .i64 x.a, .int .i64 x.b, .slice B k d] 30) := ⟨_, rfl⟩
  have C0 := hid (show Chg (fun _ => False) w w0 by rw [hw0]; exact ((Chg.refl _ w).alloc _).alloc _)
  have B0 := hid (show w0.heap[w.heap.size]? = some (.cells #[.int .i64 m.kind, .int .i64 m.a, .int .i64 m.b, .slice A n c] 24 (0, 0)) by rw [hw0]; exact blk_alloc (blk_new w _) _)
  have X0 := hid (show w0.heap[w.heap.size + 1]? = some (.cells #[.int .i64 x.kind, .int .i64 x.a, .int .i64 x.b, .slice B k d] 30 (0, 0)) by
    rw [hw0]
    have := blk_new (w.alloc (.cells #[.int .i64 m.kind, .int .i64 m.a, .int .i64 m.b, .slice A n c] 24)) (.cells #[.int .i64 x.kind, .int .i64 x.a, .int .i64 x.b, .slice B k d] 30)
    simpa using this)
  have HL0 := hid (hl.chg C0.out (fun _ _ h => h))
  have HX0 := hid (hx.chg C0.out (fun _ _ h => h))
  have HPUT := hid hput
  clear hl hx hput
  have x0 : ∀ wx, Chg (fun _ => False) w0 wx → wx.cell? ⟨w.heap.size, 0, none⟩ = some (.int .i64 m.kind) := fun wx hx => hx.cell (by rw [cellAt B0.out]; rfl) (fun h => h)
  have y0 : ∀ wx, Chg (fun _ => False) w0 wx → wx.cell? ⟨w.heap.size + 1, 0, none⟩ = some (.int .i64 x.kind) := fun wx hx => hx.cell (by rw [cellAt X0.out]; rfl) (fun h => h)
  have u0 := x0 w0 (Chg.refl _ _)
  have v0 := y0 w0 (Chg.refl _ _)
  have x1 : ∀ wx, Chg (fun _ => False) w0 wx → wx.cell? ⟨w.heap.size, 1, none⟩ = some (.int .i64 m.a) := fun wx hx => hx.cell (by rw [cellAt B0.out]; rfl) (fun h => h)
  have y1 : ∀ wx, Chg (fun _ => False) w0 wx → wx.cell? ⟨w.heap.size + 1, 1, none⟩ = some (.int .i64 x.a) := fun wx hx => hx.cell (by rw [cellAt X0.out]; rfl) (fun h => h)
  have u1 := x1 w0 (Chg.refl _ _)
  have v1 := y1 w0 (Chg.refl _ _)
  have x2 : ∀ wx, Chg (fun _ => False) w0 wx → wx.cell? ⟨w.heap.size, 2, none⟩ = some (.int .i64 m.b) := fun wx hx => hx.cell (by rw [cellAt B0.out]; rfl) (fun h => h)
  have y2 : ∀ wx, Chg (fun _ => False) w0 wx → wx.cell? ⟨w.heap.size + 1, 2, none⟩ = some (.int .i64 x.b) := fun wx hx => hx.cell (by rw [cellAt X0.out]; rfl) (fun h => h)
  have u2 := x2 w0 (Chg.refl _ _)
  have v2 := y2 w0 (Chg.refl _ _)
  have x3 : ∀ wx, Chg (fun _ => False) w0 wx → wx.cell? ⟨w.heap.size, 3, none⟩ = some (.slice A n c) := fun wx hx => hx.cell (by rw [cellAt B0.out]; rfl) (fun h => h)
  have y3 : ∀ wx, Chg (fun _ => False) w0 wx → wx.cell? ⟨w.heap.size + 1, 3, none⟩ = some (.slice B k d) := fun wx hx => hx.cell (by rw [cellAt X0.out]; rfl) (fun h => h)
  have u3 := x3 w0 (Chg.refl _ _)
  have v3 := y3 w0 (Chg.refl _ _)
  have HW0 := hid hw0
  clear hw0
  cases g0 : (m.kind == x.kind)
  · have G := hid (show decide (m = x) = false by rw [rec_dec, g0]; simp)
    go_enter Try.func18, Try.ntmps18
    go_wp2_with fail
    rw [← HW0.out]
    go_quiet (fail)
    go_wp2_with fail
    go_ret
    exact ⟨by rw [G.out]; rfl, C0.out.drewN _⟩
  have Hg0 := hid g0
  cases g1 : (m.a == x.a)
  · have G := hid (show decide (m = x) = false by rw [rec_dec, g1]; simp)
    go_enter Try.func18, Try.ntmps18
    go_wp2_with fail
    rw [← HW0.out]
    go_quiet (fail)
    go_wp2_with fail
    go_ret
    exact ⟨by rw [G.out]; rfl, C0.out.drewN _⟩
  have Hg1 := hid g1
  cases g2 : (m.b == x.b)
  · have G := hid (show decide (m = x) = false by rw [rec_dec, g2]; simp)
    go_enter Try.func18, Try.ntmps18
    go_wp2_with fail
    rw [← HW0.out]
    go_quiet (fail)
    go_wp2_with fail
    go_ret
    exact ⟨by rw [G.out]; rfl, C0.out.drewN _⟩
  have Hg2 := hid g2
  have GE := hid (show decide (m = x) = decide (m.log = x.log) by rw [rec_dec, g0, g1, g2]; rfl)
  clear g0 g1 g2
  go_enter Try.func18, Try.ntmps18
  go_wp2_with fail
  rw [← HW0.out]
  clear HW0
  have g0 := Hg0.out
  have g1 := Hg1.out
  have g2 := Hg2.out
  refine wpB_start (fun wx : World => Chg (fun _ => False) w0 wx) (by kernel_rfl) ?_
  have hHeld : (fun wx : World => Chg (fun _ => False) w0 wx) _ := (by first | assumption | exact Chg.drew (Chg.refl _ _) | (show _ ∧ _; refine ⟨?_, ?_⟩ <;> assumption) | (first | (with_reducible exact hHeld.trans HZ2.out (fun _ h _ => h)) | (with_reducible exact hHeld.trans HZ.out (fun _ h _ => h))))
  -- 0: t5 := fieldAddr 24 t2 0 : 0
  refine wpB_take (i := 0) (v := ?_) (get_of_drop rfl) (by kernel_rfl) (by kernel_rfl) (by kernel_rfl) (by kernel_rfl) (fun _ _ _ h => h) (Or.inl ⟨by rfl, ?_⟩) hHeld ?_
  rotate_left
  · (intro w hSw; (try dsimp only at hSw); go_simp <;> with_reducible rfl)
  try simp only [Act.put, List.setIfInBounds_toArray, List.set_cons_zero, List.set_cons_succ]
  -- 1: t6 := load 3 t5 : 3
  refine wpB_take (i := 1) (v := ?_) (get_of_drop rfl) (by kernel_rfl) (by kernel_rfl) (by kernel_rfl) (by kernel_rfl) (fun _ _ _ h => h) (Or.inl ⟨by rfl, ?_⟩) hHeld ?_
  rotate_left
  · (intro w hSw; (try dsimp only at hSw); go_simp <;> with_reducible rfl)
  try simp only [Act.put, List.setIfInBounds_toArray, List.set_cons_zero, List.set_cons_succ]
  -- 2: t7 := fieldAddr 30 t3 0 : 0
  refine wpB_take (i := 2) (v := ?_) (get_of_drop rfl) (by kernel_rfl) (by kernel_rfl) (by kernel_rfl) (by kernel_rfl) (fun _ _ _ h => h) (Or.inl ⟨by rfl, ?_⟩) hHeld ?_
  rotate_left
  · (intro w hSw; (try dsimp only at hSw); go_simp <;> with_reducible rfl)
  try simp only [Act.put, List.setIfInBounds_toArray, List.set_cons_zero, List.set_cons_succ]
  -- 3: t8 := load 3 t7 : 3
  refine wpB_take (i := 3) (v := ?_) (get_of_drop rfl) (by kernel_rfl) (by kernel_rfl) (by kernel_rfl) (by kernel_rfl) (fun _ _ _ h => h) (Or.inl ⟨by rfl, ?_⟩) hHeld ?_
  rotate_left
  · (intro w hSw; (try dsimp only at hSw); go_simp <;> with_reducible rfl)
  try simp only [Act.put, List.setIfInBounds_toArray, List.set_cons_zero, List.set_cons_succ]
  -- 4: t9 := binOp BinOp.eql 3 t6 t8 3 : 4
  refine wpB_take (i := 4) (v := ?_) (get_of_drop rfl) (by kernel_rfl) (by kernel_rfl) (by kernel_rfl) (by kernel_rfl) (fun _ _ _ h => h) (Or.inl ⟨by rfl, ?_⟩) hHeld ?_
  rotate_left
  · (intro w hSw; (try dsimp only at hSw); go_simp <;> with_reducible rfl)
  try simp only [Act.put, List.setIfInBounds_toArray, List.set_cons_zero, List.set_cons_succ]
  -- 5: t10 := move t9 : 4
  refine wpB_take (i := 5) (v := ?_) (get_of_drop rfl) (by kernel_rfl) (by kernel_rfl) (by kernel_rfl) (by kernel_rfl) (fun _ _ _ h => h) (Or.inl ⟨by rfl, ?_⟩) hHeld ?_
  rotate_left
  · (intro w hSw; (try dsimp only at hSw); go_simp <;> with_reducible rfl)
  try simp only [Act.put, List.setIfInBounds_toArray, List.set_cons_zero, List.set_cons_succ]
  -- 6: t11 := fieldAddr 24 t2 1 : 0   [if ⟨5, true⟩]
  refine wpB_take (i := 6) (v := ?_) (get_of_drop rfl) (by kernel_rfl) (by kernel_rfl) (by kernel_rfl) (by kernel_rfl) (fun _ _ _ h => h) (Or.inl ⟨by rfl, ?_⟩) hHeld ?_
  rotate_left
  · (intro w hSw; (try dsimp only at hSw); go_simp <;> with_reducible rfl)
  try simp only [Act.put, List.setIfInBounds_toArray, List.set_cons_zero, List.set_cons_succ]
  -- 7: t12 := load 3 t11 : 3   [if ⟨5, true⟩]
  refine wpB_take (i := 7) (v := ?_) (get_of_drop rfl) (by kernel_rfl) (by kernel_rfl) (by kernel_rfl) (by kernel_rfl) (fun _ _ _ h => h) (Or.inl ⟨by rfl, ?_⟩) hHeld ?_
  rotate_left
  · (intro w hSw; (try dsimp only at hSw); go_simp <;> with_reducible rfl)
  try simp only [Act.put, List.setIfInBounds_toArray, List.set_cons_zero, List.set_cons_succ]
  -- 8: t13 := fieldAddr 30 t3 1 : 0   [if ⟨5, true⟩]
  refine wpB_take (i := 8) (v := ?_) (get_of_drop rfl) (by kernel_rfl) (by kernel_rfl) (by kernel_rfl) (by kernel_rfl) (fun _ _ _ h => h) (Or.inl ⟨by rfl, ?_⟩) hHeld ?_
  rotate_left
  · (intro w hSw; (try dsimp only at hSw); go_simp <;> with_reducible rfl)
  try simp only [Act.put, List.setIfInBounds_toArray, List.set_cons_zero, List.set_cons_succ]
  -- 9: t14 := load 3 t13 : 3   [if ⟨5, true⟩]
  refine wpB_take (i := 9) (v := ?_) (get_of_drop rfl) (by kernel_rfl) (by kernel_rfl) (by kernel_rfl) (by kernel_rfl) (fun _ _ _ h => h) (Or.inl ⟨by rfl, ?_⟩) hHeld ?_
  rotate_left
  · (intro w hSw; (try dsimp only at hSw); go_simp <;> with_reducible rfl)
  try simp only [Act.put, List.setIfInBounds_toArray, List.set_cons_zero, List.set_cons_succ]
  -- 10: t15 := binOp BinOp.eql 3 t12 t14 3 : 4   [if ⟨5, true⟩]
  refine wpB_take (i := 10) (v := ?_) (get_of_drop rfl) (by kernel_rfl) (by kernel_rfl) (by kernel_rfl) (by kernel_rfl) (fun _ _ _ h => h) (Or.inl ⟨by rfl, ?_⟩) hHeld ?_
  rotate_left
  · (intro w hSw; (try dsimp only at hSw); go_simp <;> with_reducible rfl)
  try simp only [Act.put, List.setIfInBounds_toArray, List.set_cons_zero, List.set_cons_succ]
  -- 11: t16 := pick t10 t15 #false : 4
  refine wpB_take (i := 11) (v := ?_) (get_of_drop rfl) (by kernel_rfl) (by kernel_rfl) (by kernel_rfl) (by kernel_rfl) (fun _ _ _ h => h) (Or.inl ⟨by rfl, ?_⟩) hHeld ?_
  rotate_left
  · (intro w hSw; (try dsimp only at hSw); go_simp <;> with_reducible rfl)
  try simp only [Act.put, List.setIfInBounds_toArray, List.set_cons_zero, List.set_cons_succ]
  -- 12: t17 := move t16 : 4
  refine wpB_take (i := 12) (v := ?_) (get_of_drop rfl) (by kernel_rfl) (by kernel_rfl) (by kernel_rfl) (by kernel_rfl) (fun _ _ _ h => h) (Or.inl ⟨by rfl, ?_⟩) hHeld ?_
  rotate_left
  · (intro w hSw; (try dsimp only at hSw); go_simp <;> with_reducible rfl)
  try simp only [Act.put, List.setIfInBounds_toArray, List.set_cons_zero, List.set_cons_succ]
  -- 13: t18 := fieldAddr 24 t2 2 : 0   [if ⟨12, true⟩]
  refine wpB_take (i := 13) (v := ?_) (get_of_drop rfl) (by kernel_rfl) (by kernel_rfl) (by kernel_rfl) (by kernel_rfl) (fun _ _ _ h => h) (Or.inl ⟨by rfl, ?_⟩) hHeld ?_
  rotate_left
  · (intro w hSw; (try dsimp only at hSw); go_simp <;> with_reducible rfl)
  try simp only [Act.put, List.setIfInBounds_toArray, List.set_cons_zero, List.set_cons_succ]
  -- 14: t19 := load 3 t18 : 3   [if ⟨12, true⟩]
  refine wpB_take (i := 14) (v := ?_) (get_of_drop rfl) (by kernel_rfl) (by kernel_rfl) (by kernel_rfl) (by kernel_rfl) (fun _ _ _ h => h) (Or.inl ⟨by rfl, ?_⟩) hHeld ?_
  rotate_left
  · (intro w hSw; (try dsimp only at hSw); go_simp <;> with_reducible rfl)
  try simp only [Act.put, List.setIfInBounds_toArray, List.set_cons_zero, List.set_cons_succ]
  -- 15: t20 := fieldAddr 30 t3 2 : 0   [if ⟨12, true⟩]
  refine wpB_take (i := 15) (v := ?_) (get_of_drop rfl) (by kernel_rfl) (by kernel_rfl) (by kernel_rfl) (by kernel_rfl) (fun _ _ _ h => h) (Or.inl ⟨by rfl, ?_⟩) hHeld ?_
  rotate_left
  · (intro w hSw; (try dsimp only at hSw); go_simp <;> with_reducible rfl)
  try simp only [Act.put, List.setIfInBounds_toArray, List.set_cons_zero, List.set_cons_succ]
  -- 16: t21 := load 3 t20 : 3   [if ⟨12, true⟩]
  refine wpB_take (i := 16) (v := ?_) (get_of_drop rfl) (by kernel_rfl) (by kernel_rfl) (by kernel_rfl) (by kernel_rfl) (fun _ _ _ h => h) (Or.inl ⟨by rfl, ?_⟩) hHeld ?_
  rotate_left
  · (intro w hSw; (try dsimp only at hSw); go_simp <;> with_reducible rfl)
  try simp only [Act.put, List.setIfInBounds_toArray, List.set_cons_zero, List.set_cons_succ]
  -- 17: t22 := binOp BinOp.eql 3 t19 t21 3 : 4   [if ⟨12, true⟩]
  refine wpB_take (i := 17) (v := ?_) (get_of_drop rfl) (by kernel_rfl) (by kernel_rfl) (by kernel_rfl) (by kernel_rfl) (fun _ _ _ h => h) (Or.inl ⟨by rfl, ?_⟩) hHeld ?_
  rotate_left
  · (intro w hSw; (try dsimp only at hSw); go_simp <;> with_reducible rfl)
  try simp only [Act.put, List.setIfInBounds_toArray, List.set_cons_zero, List.set_cons_succ]
  -- 18: t23 := pick t17 t22 #false : 4
  refine wpB_take (i := 18) (v := ?_) (get_of_drop rfl) (by kernel_rfl) (by kernel_rfl) (by kernel_rfl) (by kernel_rfl) (fun _ _ _ h => h) (Or.inl ⟨by rfl, ?_⟩) hHeld ?_
  rotate_left
  · (intro w hSw; (try dsimp only at hSw); go_simp <;> with_reducible rfl)
  try simp only [Act.put, List.setIfInBounds_toArray, List.set_cons_zero, List.set_cons_succ]
  -- 19: t24 := move t23 : 4
  refine wpB_take (i := 19) (v := ?_) (get_of_drop rfl) (by kernel_rfl) (by kernel_rfl) (by kernel_rfl) (by kernel_rfl) (fun _ _ _ h => h) (Or.inl ⟨by rfl, ?_⟩) hHeld ?_
  rotate_left
  · (intro w hSw; (try dsimp only at hSw); go_simp <;> with_reducible rfl)
  try simp only [Act.put, List.setIfInBounds_toArray, List.set_cons_zero, List.set_cons_succ]
  -- 20: t25 := fieldAddr 24 t2 3 : 0   [if ⟨19, true⟩]
  refine wpB_take (i := 20) (v := ?_) (get_of_drop rfl) (by kernel_rfl) (by kernel_rfl) (by kernel_rfl) (by kernel_rfl) (fun _ _ _ h => h) (Or.inl ⟨by rfl, ?_⟩) hHeld ?_
  rotate_left
  · (intro w hSw; (try dsimp only at hSw); go_simp <;> with_reducible rfl)
  try simp only [Act.put, List.setIfInBounds_toArray, List.set_cons_zero, List.set_cons_succ]
  -- 21: t26 := load 22 t25 : 22   [if ⟨19, true⟩]
  refine wpB_take (i := 21) (v := ?_) (get_of_drop rfl) (by kernel_rfl) (by kernel_rfl) (by kernel_rfl) (by kernel_rfl) (fun _ _ _ h => h) (Or.inl ⟨by rfl, ?_⟩) hHeld ?_
  rotate_left
  · (intro w hSw; (try dsimp only at hSw); go_simp <;> with_reducible rfl)
  try simp only [Act.put, List.setIfInBounds_toArray, List.set_cons_zero, List.set_cons_succ]
  -- 23: t28 := fieldAddr 30 t3 3 : 0   [if ⟨19, true⟩]
  refine wpB_take (i := 23) (v := ?_) (get_of_drop rfl) (by kernel_rfl) (by kernel_rfl) (by kernel_rfl) (by kernel_rfl) (fun _ _ _ h => h) (Or.inl ⟨by rfl, ?_⟩) hHeld ?_
  rotate_left
  · (intro w hSw; (try dsimp only at hSw); go_simp <;> with_reducible rfl)
  try simp only [Act.put, List.setIfInBounds_toArray, List.set_cons_zero, List.set_cons_succ]
  -- 24: t29 := load 28 t28 : 28   [if ⟨19, true⟩]
  refine wpB_take (i := 24) (v := ?_) (get_of_drop rfl) (by kernel_rfl) (by kernel_rfl) (by kernel_rfl) (by kernel_rfl) (fun _ _ _ h => h) (Or.inl ⟨by rfl, ?_⟩) hHeld ?_
  rotate_left
  · (intro w hSw; (try dsimp only at hSw); go_simp <;> with_reducible rfl)
  try simp only [Act.put, List.setIfInBounds_toArray, List.set_cons_zero, List.set_cons_succ]
  -- 22: t27 := CALL fn30(t26) : 28   [if ⟨19, true⟩]
  refine wpB_act (i := 22) (by kernel_rfl) (get_of_drop rfl) (fun K hK => ?_)
  go_simp
  refine (entries_any (HL0.out.chg (Chg.refl (fun _ => False) w0).drew (fun _ _ h => h)) hn HPUT.out).mono ?_
  rintro e' wy ⟨A', c', rfl, hat, hcy⟩
  have HZ := hid hcy
  have HAT := hid hat
  clear hcy hat
  refine hK.out _ _ ?_ (fun hHeld2 => ?_)
  · (first | (with_reducible exact hHeld.trans HZ2.out (fun _ h _ => h)) | (with_reducible exact hHeld.trans HZ.out (fun _ h _ => h)))
  clear hHeld hK K
  have hHeld := hHeld2
  clear hHeld2
  try simp only [Act.put, List.setIfInBounds_toArray, List.set_cons_zero, List.set_cons_succ]
  -- 25: t30 := CALL fn29(t27, t29) : 4   [if ⟨19, true⟩]
  refine wpB_act (i := 25) (by kernel_rfl) (get_of_drop rfl) (fun K hK => ?_)
  go_simp
  refine (refSame_any HAT.out (HX0.out.chg ((Chg.refl (fun _ => False) w0).drew.trans HZ.out (fun _ h _ => h)) (fun _ _ h => h))).mono ?_
  rintro e' wz ⟨rfl, hz⟩
  have HZ2 := hid hz
  clear hz
  refine hK.out _ _ ?_ (fun hHeld2 => ?_)
  · (first | (with_reducible exact hHeld.trans HZ2.out (fun _ h _ => h)) | (with_reducible exact hHeld.trans HZ.out (fun _ h _ => h)))
  clear hHeld hK K
  have hHeld := hHeld2
  clear hHeld2
  try simp only [Act.put, List.setIfInBounds_toArray, List.set_cons_zero, List.set_cons_succ]
  -- 26: t31 := pick t24 t30 #false : 4
  refine wpB_take (i := 26) (v := ?_) (get_of_drop rfl) (by kernel_rfl) (by kernel_rfl) (by kernel_rfl) (by kernel_rfl) (fun _ _ _ h => h) (Or.inl ⟨by rfl, ?_⟩) hHeld ?_
  rotate_left
  · (intro w hSw; (try dsimp only at hSw); go_simp <;> with_reducible rfl)
  try simp only [Act.put, List.setIfInBounds_toArray, List.set_cons_zero, List.set_cons_succ]
  -- 27: t4 := assign t31 : 4
  refine wpB_take (i := 27) (v := ?_) (get_of_drop rfl) (by kernel_rfl) (by kernel_rfl) (by kernel_rfl) (by kernel_rfl) (fun _ _ _ h => h) (Or.inl ⟨by rfl, ?_⟩) hHeld ?_
  rotate_left
  · (intro w hSw; (try dsimp only at hSw); go_simp <;> with_reducible rfl)
  try simp only [Act.put, List.setIfInBounds_toArray, List.set_cons_zero, List.set_cons_succ]
  refine wpB_done (by kernel_rfl) ?_ _
  have CF := hid (C0.out.trans hHeld (fun _ h _ => h))
  clear hHeld g0 g1 g2 x0 y0 u0 v0 x1 y1 u1 v1 x2 y2 u2 v2 x3 y3 u3 v3
  go_wp2_with fail
  go_ret
  exact ⟨by rw [GE.out]; rfl, CF.out⟩
end Go.Proofs.Ytcmfgijdelaelaa.Pa
