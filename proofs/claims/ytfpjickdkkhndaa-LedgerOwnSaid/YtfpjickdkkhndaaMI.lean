/- Texts of this claim, one behind the other: LedL, TypesL. -/
import Derived.Test.YtfpjickdkkhndaaMH
import Derived.Test.YtfpjickdkkhndaaMF

/- What the statements make of states; the law's same; its anchor. -/

namespace Go.Proofs.Ytfpjickdkkhndaa.Pa

set_option linter.unusedVariables false

set_option linter.unusedSimpArgs false

open Go.RowKit Go.Proofs.Ytfpjickdkkhndaa.C

attribute [local go_sem] max2_int min2_int max_two min_two

set_option maxHeartbeats 4000000 in
set_option maxRecDepth 100000 in
theorem smallstate_any {w : World} {R : Nat → Prop} {s : St} {A : Option Addr} {n c : Nat} (hl : Ty.At entryK w R A n c s.log) :
    Calls Try.prog 12 #[.agg #[.int .i64 s.view, .int .i64 s.normal, .int .i64 s.commit, .int .i64 s.active, .slice A n c]] w fun e w' => e = .returned (.bool (smallR s.log)) ∧ Chg (fun _ => False) w w' := by
  obtain ⟨w0, hw0⟩ : ∃ q_, q_ = (w.alloc (.cells #[.int .i64 s.view, .int .i64 s.normal, .int .i64 s.commit, .int .i64 s.active, .slice A n c] 32)) := ⟨_, rfl⟩
  have C0 := hid (show Chg (fun _ => False) w w0 by rw [hw0]; exact (Chg.refl _ w).alloc _)
  have BS := hid (show w0.heap[w.heap.size]? = some (.cells #[.int .i64 s.view, .int .i64 s.normal, .int .i64 s.commit, .int .i64 s.active, .slice A n c] 32 (0, 0)) by
    rw [hw0]
    have := blk_new w (.cells #[.int .i64 s.view, .int .i64 s.normal, .int .i64 s.commit, .int .i64 s.active, .slice A n c] 32)
    simpa using this)
  have SZ := hid (show w0.heap.size = w.heap.size + 1 by rw [hw0]; simp)
  have HL := hid (hl.chg C0.out (fun _ _ h => h))
  clear hl
  go_enter Try.func12, Try.ntmps12
  go_wp2_with fail
  rw [← hw0]
  clear hw0
  refine (small_any HL.out).mono ?_
  rintro e w1 ⟨rfl, h1⟩
  have C1 := hid (C0.out.trans h1 (fun _ h _ => h))
  clear h1
  go_wp2_with fail
  go_ret
  exact ⟨rfl, C1.out⟩
def MadeState (R : Nat → Prop) (s : St) (w : World) (e' : Ending) (w' : World) : Prop :=
  ∃ A' c', e' = .returned (.agg #[.int .i64 s.view, .int .i64 s.normal, .int .i64 s.commit, .int .i64 s.active, .slice A' s.log.length c']) ∧ Ty.At entryK w' (fun k => (R k ∧ k < w.heap.size) ∨ w.heap.size ≤ k) A' s.log.length c' s.log ∧ Chg (fun _ => False) w w'
set_option maxHeartbeats 4000000 in
set_option maxRecDepth 100000 in
theorem madestate_any {w : World} {R : Nat → Prop} {s : St} {A : Option Addr} {n c : Nat} (hl : Ty.At entryK w R A n c s.log) (hn : n ≤ 1000000) (hput : ∀ e ∈ s.log, e.put.length ≤ 1000000) :
    Calls Try.prog 16 #[.agg #[.int .i64 s.view, .int .i64 s.normal, .int .i64 s.commit, .int .i64 s.active, .slice A n c]] w (MadeState R s w) := by
  obtain ⟨b2, hb2⟩ : ∃ q_, q_ = w.heap.size + 1 := ⟨_, rfl⟩
  obtain ⟨w0, hw0⟩ : ∃ q_, q_ = ((w.alloc (.cells #[.int .i64 s.view, .int .i64 s.normal, .int .i64 s.commit, .int .i64 s.active, .slice A n c] 32)).alloc (.cells #[.int .i64 0, .int .i64 0, .int .i64 0, .int .i64 0, .slice none 0 0] 41)) := ⟨_, rfl⟩
  have C0 := hid (show Chg (fun _ => False) w w0 by rw [hw0]; exact ((Chg.refl _ w).alloc _).alloc _)
  have BS := hid (show w0.heap[w.heap.size]? = some (.cells #[.int .i64 s.view, .int .i64 s.normal, .int .i64 s.commit, .int .i64 s.active, .slice A n c] 32 (0, 0)) by
    rw [hw0]
    refine blk_alloc ?_ _
    have := blk_new w (.cells #[.int .i64 s.view, .int .i64 s.normal, .int .i64 s.commit, .int .i64 s.active, .slice A n c] 32)
    simpa using this)
  have BT := hid (show w0.heap[b2]? = some (.cells #[.int .i64 0, .int .i64 0, .int .i64 0, .int .i64 0, .slice none 0 0] 41 (0, 0)) by
    rw [hw0, hb2]
    have := blk_new (w.alloc (.cells #[.int .i64 s.view, .int .i64 s.normal, .int .i64 s.commit, .int .i64 s.active, .slice A n c] 32)) (.cells #[.int .i64 0, .int .i64 0, .int .i64 0, .int .i64 0, .slice none 0 0] 41)
    simpa using this)
  have ne01 : w.heap.size ≠ b2 := by omega
  have ne10 : b2 ≠ w.heap.size := by omega
  have Hb2 := hid hb2
  have ltb2 : w.heap.size < b2 := by omega
  have SZ := hid (show w0.heap.size = w.heap.size + 2 by rw [hw0]; simp)
  have HL0 := hid (hl.bound.chg C0.out (fun _ _ h => h))
  have HPUT := hid hput
  clear hl hput
  have x0 : ∀ wx, Chg (fun k => k = b2) w0 wx → wx.cell? ⟨w.heap.size, 0, none⟩ = some (.int .i64 s.view) := fun wx hx => (cellAt (hx.blk BS.out (by omega)) 0).trans rfl
  have x1 : ∀ wx, Chg (fun k => k = b2) w0 wx → wx.cell? ⟨w.heap.size, 1, none⟩ = some (.int .i64 s.normal) := fun wx hx => (cellAt (hx.blk BS.out (by omega)) 1).trans rfl
  have x2 : ∀ wx, Chg (fun k => k = b2) w0 wx → wx.cell? ⟨w.heap.size, 2, none⟩ = some (.int .i64 s.commit) := fun wx hx => (cellAt (hx.blk BS.out (by omega)) 2).trans rfl
  have x3 : ∀ wx, Chg (fun k => k = b2) w0 wx → wx.cell? ⟨w.heap.size, 3, none⟩ = some (.int .i64 s.active) := fun wx hx => (cellAt (hx.blk BS.out (by omega)) 3).trans rfl
  have x4 : ∀ wx, Chg (fun k => k = b2) w0 wx → wx.cell? ⟨w.heap.size, 4, none⟩ = some (.slice A n c) := fun wx hx => (cellAt (hx.blk BS.out (by omega)) 4).trans rfl
  go_enter Try.func16, Try.ntmps16
  go_wp2_with fail
  rw [← hb2, ← hw0]
  clear hw0 hb2
  refine wpB_start (fun wx : World => Chg (fun k => k = b2) w0 wx) (by kernel_rfl) ?_
  have hHeld : (fun wx : World => Chg (fun k => k = b2) w0 wx) _ := (by first | assumption | exact Chg.drew (Chg.refl _ _) | (show _ ∧ _; refine ⟨?_, ?_⟩ <;> assumption) | (first | (with_reducible exact HZ.out) | (with_reducible exact (((((hHeld.set (p := ⟨b2, 0, none⟩) (fun _ => rfl) (.int .i64 s.view)).set (p := ⟨b2, 1, none⟩) (fun _ => rfl) (.int .i64 s.normal)).set (p := ⟨b2, 2, none⟩) (fun _ => rfl) (.int .i64 s.commit)).set (p := ⟨b2, 3, none⟩) (fun _ => rfl) (.int .i64 s.active)).set (p := ⟨b2, 4, none⟩) (fun _ => rfl) (.slice A' s.log.length c')))))
  -- 0: t3 := fieldAddr 32 t1 0 : 0
  refine wpB_take (i := 0) (v := ?_) (get_of_drop rfl) (by kernel_rfl) (by kernel_rfl) (by kernel_rfl) (by kernel_rfl) (fun _ _ _ h => h) (Or.inl ⟨by rfl, ?_⟩) hHeld ?_
  rotate_left
  · (intro w hSw; (try dsimp only at hSw); go_simp <;> with_reducible rfl)
  try simp only [Act.put, List.setIfInBounds_toArray, List.set_cons_zero, List.set_cons_succ]
  -- 1: t4 := load 3 t3 : 3
  refine wpB_take (i := 1) (v := ?_) (get_of_drop rfl) (by kernel_rfl) (by kernel_rfl) (by kernel_rfl) (by kernel_rfl) (fun _ _ _ h => h) (Or.inl ⟨by rfl, ?_⟩) hHeld ?_
  rotate_left
  · (intro w hSw; (try dsimp only at hSw); go_simp <;> with_reducible rfl)
  try simp only [Act.put, List.setIfInBounds_toArray, List.set_cons_zero, List.set_cons_succ]
  -- 2: t5 := fieldAddr 32 t1 1 : 0
  refine wpB_take (i := 2) (v := ?_) (get_of_drop rfl) (by kernel_rfl) (by kernel_rfl) (by kernel_rfl) (by kernel_rfl) (fun _ _ _ h => h) (Or.inl ⟨by rfl, ?_⟩) hHeld ?_
  rotate_left
  · (intro w hSw; (try dsimp only at hSw); go_simp <;> with_reducible rfl)
  try simp only [Act.put, List.setIfInBounds_toArray, List.set_cons_zero, List.set_cons_succ]
  -- 3: t6 := load 3 t5 : 3
  refine wpB_take (i := 3) (v := ?_) (get_of_drop rfl) (by kernel_rfl) (by kernel_rfl) (by kernel_rfl) (by kernel_rfl) (fun _ _ _ h => h) (Or.inl ⟨by rfl, ?_⟩) hHeld ?_
  rotate_left
  · (intro w hSw; (try dsimp only at hSw); go_simp <;> with_reducible rfl)
  try simp only [Act.put, List.setIfInBounds_toArray, List.set_cons_zero, List.set_cons_succ]
  -- 4: t7 := fieldAddr 32 t1 2 : 0
  refine wpB_take (i := 4) (v := ?_) (get_of_drop rfl) (by kernel_rfl) (by kernel_rfl) (by kernel_rfl) (by kernel_rfl) (fun _ _ _ h => h) (Or.inl ⟨by rfl, ?_⟩) hHeld ?_
  rotate_left
  · (intro w hSw; (try dsimp only at hSw); go_simp <;> with_reducible rfl)
  try simp only [Act.put, List.setIfInBounds_toArray, List.set_cons_zero, List.set_cons_succ]
  -- 5: t8 := load 3 t7 : 3
  refine wpB_take (i := 5) (v := ?_) (get_of_drop rfl) (by kernel_rfl) (by kernel_rfl) (by kernel_rfl) (by kernel_rfl) (fun _ _ _ h => h) (Or.inl ⟨by rfl, ?_⟩) hHeld ?_
  rotate_left
  · (intro w hSw; (try dsimp only at hSw); go_simp <;> with_reducible rfl)
  try simp only [Act.put, List.setIfInBounds_toArray, List.set_cons_zero, List.set_cons_succ]
  -- 6: t9 := fieldAddr 32 t1 3 : 0
  refine wpB_take (i := 6) (v := ?_) (get_of_drop rfl) (by kernel_rfl) (by kernel_rfl) (by kernel_rfl) (by kernel_rfl) (fun _ _ _ h => h) (Or.inl ⟨by rfl, ?_⟩) hHeld ?_
  rotate_left
  · (intro w hSw; (try dsimp only at hSw); go_simp <;> with_reducible rfl)
  try simp only [Act.put, List.setIfInBounds_toArray, List.set_cons_zero, List.set_cons_succ]
  -- 7: t10 := load 3 t9 : 3
  refine wpB_take (i := 7) (v := ?_) (get_of_drop rfl) (by kernel_rfl) (by kernel_rfl) (by kernel_rfl) (by kernel_rfl) (fun _ _ _ h => h) (Or.inl ⟨by rfl, ?_⟩) hHeld ?_
  rotate_left
  · (intro w hSw; (try dsimp only at hSw); go_simp <;> with_reducible rfl)
  try simp only [Act.put, List.setIfInBounds_toArray, List.set_cons_zero, List.set_cons_succ]
  -- 8: t11 := fieldAddr 32 t1 4 : 0
  refine wpB_take (i := 8) (v := ?_) (get_of_drop rfl) (by kernel_rfl) (by kernel_rfl) (by kernel_rfl) (by kernel_rfl) (fun _ _ _ h => h) (Or.inl ⟨by rfl, ?_⟩) hHeld ?_
  rotate_left
  · (intro w hSw; (try dsimp only at hSw); go_simp <;> with_reducible rfl)
  try simp only [Act.put, List.setIfInBounds_toArray, List.set_cons_zero, List.set_cons_succ]
  -- 9: t12 := load 30 t11 : 30
  refine wpB_take (i := 9) (v := ?_) (get_of_drop rfl) (by kernel_rfl) (by kernel_rfl) (by kernel_rfl) (by kernel_rfl) (fun _ _ _ h => h) (Or.inl ⟨by rfl, ?_⟩) hHeld ?_
  rotate_left
  · (intro w hSw; (try dsimp only at hSw); go_simp <;> with_reducible rfl)
  try simp only [Act.put, List.setIfInBounds_toArray, List.set_cons_zero, List.set_cons_succ]
  -- 10: t13 := CALL fn38(t12) : 39
  refine wpB_act (i := 10) (by kernel_rfl) (get_of_drop rfl) (fun K hK => ?_)
  go_simp
  refine (entries_any (HL0.out.chg (Chg.refl (fun _ => False) w0).drew (fun _ _ h => h)) hn HPUT.out).mono ?_
  rintro e' wy ⟨A', c', rfl, hat, hcy⟩
  have HZ := hid (show Chg (fun k => k = b2) w0 wy from (Chg.refl (fun k => k = b2) w0).drew.trans (hcy.mono (fun _ h _ => h.elim)) (fun _ h _ => h))
  have CY := hid (show Chg (fun _ => False) w0 wy from (Chg.refl (fun _ => False) w0).drew.trans hcy (fun _ h _ => h))
  have HAT := hid hat
  replace BT := hid (show wy.heap[b2]? = _ from hcy.blk (show w0.drew.heap[b2]? = _ from BT.out) (fun h => h))
  have yz0 : wy.cell? ⟨b2, 0, none⟩ = some (.int .i64 0) := (cellAt BT.out 0).trans rfl
  have fz0 : wy.frozen? ⟨b2, 0, none⟩ = false := freeAt BT.out 0
  have yz1 : wy.cell? ⟨b2, 1, none⟩ = some (.int .i64 0) := (cellAt BT.out 1).trans rfl
  have fz1 : wy.frozen? ⟨b2, 1, none⟩ = false := freeAt BT.out 1
  have yz2 : wy.cell? ⟨b2, 2, none⟩ = some (.int .i64 0) := (cellAt BT.out 2).trans rfl
  have fz2 : wy.frozen? ⟨b2, 2, none⟩ = false := freeAt BT.out 2
  have yz3 : wy.cell? ⟨b2, 3, none⟩ = some (.int .i64 0) := (cellAt BT.out 3).trans rfl
  have fz3 : wy.frozen? ⟨b2, 3, none⟩ = false := freeAt BT.out 3
  have yz4 : wy.cell? ⟨b2, 4, none⟩ = some (.slice none 0 0) := (cellAt BT.out 4).trans rfl
  have fz4 : wy.frozen? ⟨b2, 4, none⟩ = false := freeAt BT.out 4
  clear hcy hat
  refine hK.out _ _ ?_ (fun hHeld2 => ?_)
  · (first | (with_reducible exact HZ.out) | (with_reducible exact (((((hHeld.set (p := ⟨b2, 0, none⟩) (fun _ => rfl) (.int .i64 s.view)).set (p := ⟨b2, 1, none⟩) (fun _ => rfl) (.int .i64 s.normal)).set (p := ⟨b2, 2, none⟩) (fun _ => rfl) (.int .i64 s.commit)).set (p := ⟨b2, 3, none⟩) (fun _ => rfl) (.int .i64 s.active)).set (p := ⟨b2, 4, none⟩) (fun _ => rfl) (.slice A' s.log.length c'))))
  clear hHeld hK K
  have hHeld := hHeld2
  clear hHeld2
  try simp only [Act.put, List.setIfInBounds_toArray, List.set_cons_zero, List.set_cons_succ]
  -- 11: t14 := build 41 [⟨0, t4⟩, ⟨1, t6⟩, ⟨2, t8⟩, ⟨3, t10⟩, ⟨4, t13⟩] : 41
  refine wpB_take (i := 11) (v := ?_) (get_of_drop rfl) (by kernel_rfl) (by kernel_rfl) (by kernel_rfl) (by kernel_rfl) (fun _ _ _ h => h) (Or.inl ⟨by rfl, ?_⟩) hHeld ?_
  rotate_left
  · (intro w hSw; (try dsimp only at hSw); go_simp <;> with_reducible rfl)
  try simp only [Act.put, List.setIfInBounds_toArray, List.set_cons_zero, List.set_cons_succ]
  -- 12: t- := store 41 t2 t14 : 0 (BARRIER)
  refine wpB_bar (i := 12) (by kernel_rfl) (get_of_drop rfl) (by kernel_rfl) (fun K hK => ?_)
  go_simp
  refine hK.out _ _ (fun _ : World => True) ?_
  clear hHeld hK K
  have hHeld := trivial
  try simp only [Act.put, List.setIfInBounds_toArray, List.set_cons_zero, List.set_cons_succ]
  refine wpB_done (by kernel_rfl) ?_ _
  clear hHeld x0 x1 x2 x3 x4 yz0 fz0 yz1 fz1 yz2 fz2 yz3 fz3 yz4 fz4
  go_wp2_with fail
  obtain ⟨PB, PC⟩ := put_blk [(.int .i64 s.view : Value), .int .i64 s.normal, .int .i64 s.commit, .int .i64 s.active, .slice A' s.log.length c'] wy _ BT.out rfl
  generalize hW : (((((wy.setCell ⟨b2, 0, none⟩ (.int .i64 s.view)).setCell ⟨b2, 1, none⟩ (.int .i64 s.normal)).setCell ⟨b2, 2, none⟩ (.int .i64 s.commit)).setCell ⟨b2, 3, none⟩ (.int .i64 s.active)).setCell ⟨b2, 4, none⟩ (.slice A' s.log.length c')) = W
  have BT2 := hid (show W.heap[b2]? = some (.cells #[.int .i64 s.view, .int .i64 s.normal, .int .i64 s.commit, .int .i64 s.active, .slice A' s.log.length c'] 41 (0, 0)) by rw [← hW]; exact PB)
  have CW := hid (show Chg (fun k => k = b2) wy W by rw [← hW]; exact PC)
  clear PB PC hW
  have z0 : W.cell? ⟨b2, 0, none⟩ = some (.int .i64 s.view) := (cellAt BT2.out 0).trans rfl
  have z1 : W.cell? ⟨b2, 1, none⟩ = some (.int .i64 s.normal) := (cellAt BT2.out 1).trans rfl
  have z2 : W.cell? ⟨b2, 2, none⟩ = some (.int .i64 s.commit) := (cellAt BT2.out 2).trans rfl
  have z3 : W.cell? ⟨b2, 3, none⟩ = some (.int .i64 s.active) := (cellAt BT2.out 3).trans rfl
  have z4 : W.cell? ⟨b2, 4, none⟩ = some (.slice A' s.log.length c') := (cellAt BT2.out 4).trans rfl
  refine bodyPost_ret (v := .agg #[.int .i64 s.view, .int .i64 s.normal, .int .i64 s.commit, .int .i64 s.active, .slice A' s.log.length c']) (by simp [results, Try.results16, go_sem, z0, z1, z2, z3, z4]) rfl ?_
  refine ⟨A', c', rfl, (HAT.out.bound.chg CW.out (fun k hk e => ?_)).mono (fun k hk => ?_), ((C0.out.trans CY.out (fun _ h _ => h)).trans CW.out (fun k hk hl => by have := Hb2.out; omega))⟩
  · have z := SZ.out
    have hb := Hb2.out
    subst e
    rcases hk.1 with q | q
    · have := q.1.2; omega
    · have q1 : w0.heap.size ≤ _ := q; omega
  · have z := SZ.out
    rcases hk.1 with q | q
    · exact .inl ⟨q.1.1, q.1.2⟩
    · have q1 : w0.heap.size ≤ k := q; exact .inr (by omega)
set_option maxHeartbeats 4000000 in
set_option maxRecDepth 100000 in
theorem same13_any {w : World} {R R2 : Nat → Prop} {s x : St} {A : Option Addr} {n c : Nat} {B : Option Addr} {k d : Nat} (hl : Ty.At entryK w R A n c s.log) (hr : Ty.At entryK w R2 B k d x.log) (hn : n ≤ 1000000) (hput : ∀ e ∈ s.log, e.put.length ≤ 1000000) :
    Calls Try.prog 15 #[.agg #[.int .i64 s.view, .int .i64 s.normal, .int .i64 s.commit, .int .i64 s.active, .slice A n c], .agg #[.int .i64 x.view, .int .i64 x.normal, .int .i64 x.commit, .int .i64 x.active, .slice B k d]] w fun e w' => e = .returned (.bool (decide (s = x))) ∧ Chg (fun _ => False) w w' := by
  obtain ⟨b2, hb2⟩ : ∃ q_, q_ = w.heap.size + 1 := ⟨_, rfl⟩
  obtain ⟨w0, hw0⟩ : ∃ q_, q_ = ((w.alloc (.cells #[.int .i64 s.view, .int .i64 s.normal, .int .i64 s.commit, .int .i64 s.active, .slice A n c] 32)).alloc (.cells #[.int .i64 x.view, .int .i64 x.normal, .int .i64 x.commit, .int .i64 x.active, .slice B k d] 41)) := ⟨_, rfl⟩
  have C0 := hid (show Chg (fun _ => False) w w0 by rw [hw0]; exact ((Chg.refl _ w).alloc _).alloc _)
  have BS := hid (show w0.heap[w.heap.size]? = some (.cells #[.int .i64 s.view, .int .i64 s.normal, .int .i64 s.commit, .int .i64 s.active, .slice A n c] 32 (0, 0)) by
    rw [hw0]
    refine blk_alloc ?_ _
    have := blk_new w (.cells #[.int .i64 s.view, .int .i64 s.normal, .int .i64 s.commit, .int .i64 s.active, .slice A n c] 32)
    simpa using this)
  have BX := hid (show w0.heap[b2]? = some (.cells #[.int .i64 x.view, .int .i64 x.normal, .int .i64 x.commit, .int .i64 x.active, .slice B k d] 41 (0, 0)) by
    rw [hw0, hb2]
    have := blk_new (w.alloc (.cells #[.int .i64 s.view, .int .i64 s.normal, .int .i64 s.commit, .int .i64 s.active, .slice A n c] 32)) (.cells #[.int .i64 x.view, .int .i64 x.normal, .int .i64 x.commit, .int .i64 x.active, .slice B k d] 41)
    simpa using this)
  have ne01 : w.heap.size ≠ b2 := by omega
  have ne10 : b2 ≠ w.heap.size := by omega
  have Hb2 := hid hb2
  have ltb2 : w.heap.size < b2 := by omega
  have SZ := hid (show w0.heap.size = w.heap.size + 2 by rw [hw0]; simp)
  have HL := hid (hl.bound.chg C0.out (fun _ _ h => h))
  have HX := hid (hr.bound.chg C0.out (fun _ _ h => h))
  have HPUT := hid hput
  clear hl hr hput
  have x0 : ∀ wx, Chg (fun _ => False) w0 wx → wx.cell? ⟨w.heap.size, 0, none⟩ = some (.int .i64 s.view) := fun wx hx => (cellAt (hx.blk BS.out (fun h => h)) 0).trans rfl
  have x1 : ∀ wx, Chg (fun _ => False) w0 wx → wx.cell? ⟨w.heap.size, 1, none⟩ = some (.int .i64 s.normal) := fun wx hx => (cellAt (hx.blk BS.out (fun h => h)) 1).trans rfl
  have x2 : ∀ wx, Chg (fun _ => False) w0 wx → wx.cell? ⟨w.heap.size, 2, none⟩ = some (.int .i64 s.commit) := fun wx hx => (cellAt (hx.blk BS.out (fun h => h)) 2).trans rfl
  have x3 : ∀ wx, Chg (fun _ => False) w0 wx → wx.cell? ⟨w.heap.size, 3, none⟩ = some (.int .i64 s.active) := fun wx hx => (cellAt (hx.blk BS.out (fun h => h)) 3).trans rfl
  have x4 : ∀ wx, Chg (fun _ => False) w0 wx → wx.cell? ⟨w.heap.size, 4, none⟩ = some (.slice A n c) := fun wx hx => (cellAt (hx.blk BS.out (fun h => h)) 4).trans rfl
  have y0 : ∀ wx, Chg (fun _ => False) w0 wx → wx.cell? ⟨b2, 0, none⟩ = some (.int .i64 x.view) := fun wx hx => (cellAt (hx.blk BX.out (fun h => h)) 0).trans rfl
  have y1 : ∀ wx, Chg (fun _ => False) w0 wx → wx.cell? ⟨b2, 1, none⟩ = some (.int .i64 x.normal) := fun wx hx => (cellAt (hx.blk BX.out (fun h => h)) 1).trans rfl
  have y2 : ∀ wx, Chg (fun _ => False) w0 wx → wx.cell? ⟨b2, 2, none⟩ = some (.int .i64 x.commit) := fun wx hx => (cellAt (hx.blk BX.out (fun h => h)) 2).trans rfl
  have y3 : ∀ wx, Chg (fun _ => False) w0 wx → wx.cell? ⟨b2, 3, none⟩ = some (.int .i64 x.active) := fun wx hx => (cellAt (hx.blk BX.out (fun h => h)) 3).trans rfl
  have y4 : ∀ wx, Chg (fun _ => False) w0 wx → wx.cell? ⟨b2, 4, none⟩ = some (.slice B k d) := fun wx hx => (cellAt (hx.blk BX.out (fun h => h)) 4).trans rfl
  go_enter Try.func15, Try.ntmps15
  go_wp2_with fail
  rw [← hb2, ← hw0]
  clear hw0 hb2
  refine wpB_start (fun wx : World => Chg (fun _ => False) w0 wx) (by kernel_rfl) ?_
  have hHeld : (fun wx : World => Chg (fun _ => False) w0 wx) _ := (by first | assumption | exact Chg.drew (Chg.refl _ _) | (show _ ∧ _; refine ⟨?_, ?_⟩ <;> assumption) | (first | assumption | (with_reducible exact HZ2.out) | (with_reducible exact HZ.out)))
  -- 0: t5 := load 32 t2 : 32
  refine wpB_take (i := 0) (v := ?_) (get_of_drop rfl) (by kernel_rfl) (by kernel_rfl) (by kernel_rfl) (by kernel_rfl) (fun _ _ _ h => h) (Or.inl ⟨by rfl, ?_⟩) hHeld ?_
  rotate_left
  · (intro w hSw; (try dsimp only at hSw); go_simp <;> with_reducible rfl)
  try simp only [Act.put, List.setIfInBounds_toArray, List.set_cons_zero, List.set_cons_succ]
  -- 2: t7 := load 41 t3 : 41
  refine wpB_take (i := 2) (v := ?_) (get_of_drop rfl) (by kernel_rfl) (by kernel_rfl) (by kernel_rfl) (by kernel_rfl) (fun _ _ _ h => h) (Or.inl ⟨by rfl, ?_⟩) hHeld ?_
  rotate_left
  · (intro w hSw; (try dsimp only at hSw); go_simp <;> with_reducible rfl)
  try simp only [Act.put, List.setIfInBounds_toArray, List.set_cons_zero, List.set_cons_succ]
  -- 1: t6 := CALL fn16(t5) : 41
  refine wpB_act (i := 1) (by kernel_rfl) (get_of_drop rfl) (fun K hK => ?_)
  go_simp
  refine (madestate_any (HL.out.chg (Chg.refl (fun _ => False) w0).drew (fun _ _ h => h)) hn HPUT.out).mono ?_
  rintro e' wy ⟨A', c', rfl, hat, hcy⟩
  have HZ := hid (show Chg (fun _ => False) w0 wy from (Chg.refl (fun _ => False) w0).drew.trans hcy (fun _ h _ => h))
  have HAT := hid hat
  clear hcy hat
  refine hK.out _ _ ?_ (fun hHeld2 => ?_)
  · (first | assumption | (with_reducible exact HZ2.out) | (with_reducible exact HZ.out))
  clear hHeld hK K
  have hHeld := hHeld2
  clear hHeld2
  try simp only [Act.put, List.setIfInBounds_toArray, List.set_cons_zero, List.set_cons_succ]
  -- 3: t8 := CALL fn18(t6, t7) : 4 (BARRIER)
  refine wpB_bar (i := 3) (by kernel_rfl) (get_of_drop rfl) (by kernel_rfl) (fun K hK => ?_)
  go_simp
  refine (refstsame_any HAT.out (HX.out.chg HZ.out (fun _ _ h => h))).mono ?_
  rintro e' wz ⟨rfl, hcz⟩
  have HZ2 := hid (show Chg (fun _ => False) w0 wz from HZ.out.trans hcz (fun _ h _ => h))
  clear hcz
  refine hK.out _ _ (fun _ : World => True) ?_
  clear hHeld hK K
  have hHeld := trivial
  try simp only [Act.put, List.setIfInBounds_toArray, List.set_cons_zero, List.set_cons_succ]
  -- 4: t4 := assign t8 : 4
  refine wpB_take (i := 4) (v := ?_) (get_of_drop rfl) (by kernel_rfl) (by kernel_rfl) (by kernel_rfl) (by kernel_rfl) (fun _ _ _ h => h) (Or.inl ⟨by rfl, ?_⟩) hHeld ?_
  rotate_left
  · (intro w hSw; (try dsimp only at hSw); go_simp <;> with_reducible rfl)
  try simp only [Act.put, List.setIfInBounds_toArray, List.set_cons_zero, List.set_cons_succ]
  refine wpB_done (by kernel_rfl) ?_ _
  clear hHeld x0 x1 x2 x3 x4 y0 y1 y2 y3 y4
  go_wp2_with fail
  go_ret
  exact ⟨rfl, C0.out.trans HZ2.out (fun _ h _ => h)⟩
set_option maxHeartbeats 4000000 in
set_option maxRecDepth 100000 in
theorem anchor13_any (w : World) : Calls Try.prog 8 #[] w fun e w' => e = .returned (.bool true) ∧ Chg (fun _ => False) w w' := by
  go_enter Try.func8, Try.ntmps8
  go_wp2_with fail
  refine (T.new_any 1000 w (by decide) (by decide)).mono ?_
  rintro e w1 ⟨rfl, ht, h1⟩
  obtain ⟨g, hg⟩ : ∃ x, x = w.heap.size := ⟨_, rfl⟩
  rw [← hg] at ht ⊢
  have HG := hid hg
  have HT := hid ht
  have C1 := hid h1
  clear ht h1 hg
  go_wp2_with fail
  refine (Open_any HT.out ⟨by decide, by decide, by decide, by decide, by decide, by decide⟩).mono ?_
  have HOE := hid (show openT ⟨[], 0, 1000, -1, false⟩ = (⟨[], 0, 1000, -1, false⟩, 0) by unfold openT; rw [rd13_nil]; rfl)
  intro e w2 ho
  rcases ho with ⟨hne, _⟩ | ⟨_, v2, A2, n2, c2, rfl, hle, h2⟩
  · rw [HOE.out] at hne
    exact absurd rfl hne
  rw [HOE.out, rd13_nil] at hle
  have HLE := hid hle
  have C2 := hid h2
  obtain ⟨p, hp⟩ : ∃ x, x = w1.heap.size := ⟨_, rfl⟩
  rw [← hp] at HLE ⊢
  have HP := hid hp
  clear hle h2 hp
  go_wp2_with fail
  refine (Save_any (s2 := ⟨1, 0, 0, 0, []⟩) HLE.out ⟨by decide, by decide, by decide, by decide, by decide, by decide⟩ (at_nil_ _ _ (fun _ => False)) (fun _ h => h.elim)).mono ?_
  intro e w3 hs
  obtain ⟨rfl, v3, A3, n3, c3, hle, h3⟩ := hs
  have HSV := hid (show (saveT ⟨[], 0, 1000, -1, false⟩ st0 false ⟨1, 0, 0, 0, []⟩).2.2.2 = 0 ∧ (saveT ⟨[], 0, 1000, -1, false⟩ st0 false ⟨1, 0, 0, 0, []⟩).1.b.length = 34 ∧ (saveT ⟨[], 0, 1000, -1, false⟩ st0 false ⟨1, 0, 0, 0, []⟩).1.safe = 34 ∧ (saveT ⟨[], 0, 1000, -1, false⟩ st0 false ⟨1, 0, 0, 0, []⟩).2.1.view = 1 by decide +kernel)
  generalize saveT ⟨[], 0, 1000, -1, false⟩ st0 false ⟨1, 0, 0, 0, []⟩ = q at *
  obtain ⟨t3, s3, b3, d3⟩ := q
  simp only at hle HSV ⊢
  obtain ⟨rfl, hb, hsf, hvw⟩ := HSV.out
  have HLE3 := hid hle
  have C3 := hid h3
  have HB := hid hb
  clear hle h3 HSV hb
  have s34 := hid hsf
  have v1 := hid hvw
  clear hsf hvw
  go_wp2_with fail
  refine (T.bytes_any _ g v3 t3 w3 HLE3.out.tape (by rw [HB.out]; decide)).mono ?_
  rintro e w4 ⟨c4, rfl, _, h4⟩
  rw [HB.out]
  have C4 := hid h4
  have HLE4 := hid (HLE3.out.chg h4 (fun _ _ h => h))
  clear h4
  go_wp2_with fail
  refine (T.safe_any _ g v3 t3 w4 HLE4.out.tape).mono ?_
  rintro e w5 ⟨rfl, rfl⟩
  rw [s34.out]
  go_wp2_with fail
  refine (State_any HLE4.out).mono ?_
  rintro e w6 ⟨A6, n6, c6, rfl, _, h6⟩
  rw [v1.out]
  have hfd : ∀ W : World, (Instr.field 32 (.agg #[.int .i64 1, .int .i64 s3.normal, .int .i64 s3.commit, .int .i64 s3.active, .slice A6 n6 c6]) 0).run Try.prog W = .ok (.int .i64 1) W := fun _ => by kernel_rfl
  have C6 := hid h6
  clear h6
  go_wp2_with fail
  go_ret
  exact ⟨rfl, ((((C1.out.trans (S := fun _ => False) C2.out (fun j hj hl => by have h1 := HG.out; have h2 : g ≤ j := hj; omega)).trans (S := fun _ => False) C3.out (fun j hj hl => by have h1 := HG.out; have h2 := C1.out.size; have h4 := HP.out; rcases hj with h | h; have h3 : g ≤ j := h.1; omega; omega)).trans C4.out (fun _ h _ => h)).trans C6.out (fun _ h _ => h))⟩
end Go.Proofs.Ytfpjickdkkhndaa.Pa


/- How the types of ledgers open. -/

namespace Go.Proofs.Ytfpjickdkkhndaa.Pa

set_option linter.unusedVariables false

set_option linter.unusedSimpArgs false

open Go.RowKit Go.Proofs.Ytfpjickdkkhndaa.C

attribute [local go_sem] max2_int min2_int max_two min_two

theorem opens_st : Opens Try.prog 32 stK := opens_struct Try.underlying32 (by kernel_rfl) (opensF_cons rfl rfl opens_int_ (opensF_cons rfl rfl opens_int_ (opensF_cons rfl rfl opens_int_ (opensF_cons rfl rfl opens_int_ (opensF_last rfl rfl opens_entries))))) (fun s : St => (s.view, s.normal, s.commit, s.active, s.log)) (fun p => ⟨p.1, p.2.1, p.2.2.1, p.2.2.2.1, p.2.2.2.2⟩) (fun _ => rfl)
theorem opens_sts : Opens Try.prog 22 (Ty.slice stK) := opens_slice Try.underlying22 (by kernel_rfl) opens_st (by decide)
theorem opensB_ : Opens Try.prog 36 (Ty.slice Ty.u8) := opens_slice Try.underlying36 (by kernel_rfl) (opens_u8 Try.underlying5 (by kernel_rfl)) (by decide)
end Go.Proofs.Ytfpjickdkkhndaa.Pa
