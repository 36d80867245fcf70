/- Texts of this claim, one behind the other: RepX, RepY, RepZ, RepAg. -/
import Derived.Test.YtaldoajdhbndhaaME

/- Deliver. -/

namespace Go.Proofs.Ytaldoajdhbndhaa.Pa

set_option linter.unusedVariables false

set_option linter.unusedSimpArgs false

open Go.RowKit Go.Proofs.Ytaldoajdhbndhaa.C

attribute [local go_sem] max2_int min2_int max_two min_two

set_option maxHeartbeats 4000000 in
set_option maxRecDepth 100000 in
theorem deliver_any {w : World} {p b1 b2 b3 : Nat} {X : Nat → Prop} {r : Rp} {A : Option Addr} {n c : Nat} (h : Rep w w p b1 b2 b3 X r A n c (.slice none 0 0)) {m : Msg} {R : Nat → Prop} {B : Option Addr} {k d : Nat} (hm : Ty.At entryK w R B k d m.log) (hR : ∀ j, R j → j < w.heap.size → ¬ M4 p b1 b2 b3 j) (hok : RpOk r) (ho : r.out = []) :
    Calls Try.prog 18 #[.pointer (some ⟨p, 0, none⟩), .agg #[.int .i64 m.kind, .int .i64 m.view, .int .i64 m.src, .int .i64 m.dst, .int .i64 m.op, .int .i64 m.commit, .int .i64 m.normal, .slice B k d]] w (Stood w p b1 b2 b3 X (deliverR r m).1 (fun O => .tuple #[O, .int .i64 (deliverR r m).2])) := by
  obtain ⟨w1, hw1⟩ : ∃ q_, q_ = (w.alloc (.cells #[.int .i64 m.kind, .int .i64 m.view, .int .i64 m.src, .int .i64 m.dst, .int .i64 m.op, .int .i64 m.commit, .int .i64 m.normal, .slice B k d] 41)) := ⟨_, rfl⟩
  have C1 := hid (show Chg (fun _ => False) w w1 by rw [hw1]; exact (Chg.refl _ w).alloc _)
  have BX := hid (show w1.heap[w.heap.size]? = some (.cells #[.int .i64 m.kind, .int .i64 m.view, .int .i64 m.src, .int .i64 m.dst, .int .i64 m.op, .int .i64 m.commit, .int .i64 m.normal, .slice B k d] 41 (0, 0)) by
    rw [hw1]
    have := blk_new w (.cells #[.int .i64 m.kind, .int .i64 m.view, .int .i64 m.src, .int .i64 m.dst, .int .i64 m.op, .int .i64 m.commit, .int .i64 m.normal, .slice B k d] 41)
    simpa using this)
  have SZ := hid (show w1.heap.size = w.heap.size + 1 by rw [hw1]; simp)
  have H1 := hid (h.far C1.out)
  obtain ⟨b, hb⟩ : ∃ q_, q_ = w.heap.size := ⟨_, rfl⟩
  have HBb := hid hb
  replace BX := hid (show w1.heap[b]? = some (.cells #[.int .i64 m.kind, .int .i64 m.view, .int .i64 m.src, .int .i64 m.dst, .int .i64 m.op, .int .i64 m.commit, .int .i64 m.normal, .slice B k d] 41 (0, 0)) by rw [hb]; exact BX.out)
  have HSZ := hid (show w1.heap.size = b + 1 by rw [hb]; exact SZ.out)
  have HPB := hid (show p < b by rw [hb]; exact lt_of_blk h.blk)
  have HW0 := hid (show w.heap.size ≤ b by rw [hb]; exact Nat.le_refl _)
  have HH := hid h
  have HM := hid (hm.bound.chg C1.out (fun _ _ h => h))
  have HR := hid hR
  have HOK := hid hok
  have HO := hid ho
  have HST := hid hok.stn
  have L1 := hid h.log.1
  have HN := hid (show n ≤ 64 by have h1 := hok.stn.2.2.1; have h2 := h.log.1; omega)
  have H := hid H1.out
  have BP := hid H.out.blk
  clear h hm hR hok ho H1
  go_enter Try.func18, Try.ntmps18
  go_wp2_with fail
  rw [← hw1, ← hb]
  clear hw1 hb SZ
  have X_0 : ∀ wx, Chg (fun _ => False) w1 wx → wx.cell? ⟨b, 0, none⟩ = some (.int .i64 m.kind) := fun wx hx => (cellAt (hx.blk BX.out (fun h => h)) 0).trans rfl
  have X_1 : ∀ wx, Chg (fun _ => False) w1 wx → wx.cell? ⟨b, 1, none⟩ = some (.int .i64 m.view) := fun wx hx => (cellAt (hx.blk BX.out (fun h => h)) 1).trans rfl
  have X_2 : ∀ wx, Chg (fun _ => False) w1 wx → wx.cell? ⟨b, 2, none⟩ = some (.int .i64 m.src) := fun wx hx => (cellAt (hx.blk BX.out (fun h => h)) 2).trans rfl
  have X_3 : ∀ wx, Chg (fun _ => False) w1 wx → wx.cell? ⟨b, 3, none⟩ = some (.int .i64 m.dst) := fun wx hx => (cellAt (hx.blk BX.out (fun h => h)) 3).trans rfl
  have X_4 : ∀ wx, Chg (fun _ => False) w1 wx → wx.cell? ⟨b, 4, none⟩ = some (.int .i64 m.op) := fun wx hx => (cellAt (hx.blk BX.out (fun h => h)) 4).trans rfl
  have X_5 : ∀ wx, Chg (fun _ => False) w1 wx → wx.cell? ⟨b, 5, none⟩ = some (.int .i64 m.commit) := fun wx hx => (cellAt (hx.blk BX.out (fun h => h)) 5).trans rfl
  have X_6 : ∀ wx, Chg (fun _ => False) w1 wx → wx.cell? ⟨b, 6, none⟩ = some (.int .i64 m.normal) := fun wx hx => (cellAt (hx.blk BX.out (fun h => h)) 6).trans rfl
  have X_7 : ∀ wx, Chg (fun _ => False) w1 wx → wx.cell? ⟨b, 7, none⟩ = some (.slice B k d) := fun wx hx => (cellAt (hx.blk BX.out (fun h => h)) 7).trans rfl
  have U_0 : ∀ wx, Chg (fun _ => False) w1 wx → wx.cell? ⟨p, 0, none⟩ = some (.int .i64 r.n) := fun wx hx => (cellAt (hx.blk BP.out (fun h => h)) 0).trans rfl
  have U_1 : ∀ wx, Chg (fun _ => False) w1 wx → wx.cell? ⟨p, 1, none⟩ = some (.int .i64 r.id) := fun wx hx => (cellAt (hx.blk BP.out (fun h => h)) 1).trans rfl
  cases hmr : msgR m
  case false =>
    have HNO := hid (show meantR r m = false by unfold meantR; rw [hmr]; rfl)
    have HMR := hid hmr
    clear hmr
    have hmr := HMR.out
    refine wpB_start (fun wx : World => Chg (fun _ => False) w1 wx) (by kernel_rfl) ?_
    have hHeld : (fun wx : World => Chg (fun _ => False) w1 wx) _ := (Chg.refl (fun _ => False) w1).drew
    -- 0: t7 := load 41 t3 : 41
    refine wpB_take (i := 0) (v := ?_) (get_of_drop rfl) (by kernel_rfl) (by kernel_rfl) (by kernel_rfl) (by kernel_rfl) (fun _ _ _ h => h) (Or.inl ⟨by rfl, ?_⟩) hHeld ?_
    rotate_left
    · (intro w hSw; (try dsimp only at hSw); go_simp <;> with_reducible rfl)
    try simp only [Act.put, List.setIfInBounds_toArray, List.set_cons_zero, List.set_cons_succ]
    -- 1: t8 := CALL fn32(t7) : 4
    refine wpB_act (i := 1) (by kernel_rfl) (get_of_drop rfl) (fun K hK => ?_)
    go_simp
    refine (msgright_any (HM.out.chg hHeld (fun _ _ h => h))).mono ?_
    rintro e' wy ⟨rfl, hwy⟩
    have HW := hid (show Chg (fun _ => False) w1 wy from hHeld.trans hwy (fun _ h _ => h))
    refine hK.out _ _ ?_ (fun hHeld2 => ?_)
    · first | assumption | exact HW.out
    clear hHeld hK K
    have hHeld := hHeld2
    clear hHeld2
    try simp only [Act.put, List.setIfInBounds_toArray, List.set_cons_zero, List.set_cons_succ]
    -- 2: t9 := unOp UnOp.not 4 t8 : 4
    refine wpB_take (i := 2) (v := ?_) (get_of_drop rfl) (by kernel_rfl) (by kernel_rfl) (by kernel_rfl) (by kernel_rfl) (fun _ _ _ h => h) (Or.inl ⟨by rfl, ?_⟩) hHeld ?_
    rotate_left
    · (intro w hSw; (try dsimp only at hSw); go_simp <;> with_reducible rfl)
    try simp only [Act.put, List.setIfInBounds_toArray, List.set_cons_zero, List.set_cons_succ]
    -- 3: t10 := move t9 : 4
    refine wpB_take (i := 3) (v := ?_) (get_of_drop rfl) (by kernel_rfl) (by kernel_rfl) (by kernel_rfl) (by kernel_rfl) (fun _ _ _ h => h) (Or.inl ⟨by rfl, ?_⟩) hHeld ?_
    rotate_left
    · (intro w hSw; (try dsimp only at hSw); go_simp <;> with_reducible rfl)
    try simp only [Act.put, List.setIfInBounds_toArray, List.set_cons_zero, List.set_cons_succ]
    -- 4: t11 := fieldAddr 41 t3 3 : 0   [if ⟨3, false⟩]
    refine wpB_take (i := 4) (v := undef) (get_of_drop rfl) (by kernel_rfl) (by kernel_rfl) (by kernel_rfl) (by kernel_rfl) (fun _ _ _ h => h) (Or.inr ⟨by rfl, rfl⟩) hHeld ?_
    try simp only [Act.put, List.setIfInBounds_toArray, List.set_cons_zero, List.set_cons_succ]
    -- 5: t12 := load 3 t11 : 3   [if ⟨3, false⟩]
    refine wpB_take (i := 5) (v := undef) (get_of_drop rfl) (by kernel_rfl) (by kernel_rfl) (by kernel_rfl) (by kernel_rfl) (fun _ _ _ h => h) (Or.inr ⟨by rfl, rfl⟩) hHeld ?_
    try simp only [Act.put, List.setIfInBounds_toArray, List.set_cons_zero, List.set_cons_succ]
    -- 6: t13 := move t0 : 30   [if ⟨3, false⟩]
    refine wpB_take (i := 6) (v := undef) (get_of_drop rfl) (by kernel_rfl) (by kernel_rfl) (by kernel_rfl) (by kernel_rfl) (fun _ _ _ h => h) (Or.inr ⟨by rfl, rfl⟩) hHeld ?_
    try simp only [Act.put, List.setIfInBounds_toArray, List.set_cons_zero, List.set_cons_succ]
    -- 7: t14 := nilCheck t13 : 0   [if ⟨3, false⟩]
    refine wpB_take (i := 7) (v := undef) (get_of_drop rfl) (by kernel_rfl) (by kernel_rfl) (by kernel_rfl) (by kernel_rfl) (fun _ _ _ h => h) (Or.inr ⟨by rfl, rfl⟩) hHeld ?_
    try simp only [Act.put, List.setIfInBounds_toArray, List.set_cons_zero, List.set_cons_succ]
    -- 8: t15 := fieldAddr 100 t14 0 : 0   [if ⟨3, false⟩]
    refine wpB_take (i := 8) (v := undef) (get_of_drop rfl) (by kernel_rfl) (by kernel_rfl) (by kernel_rfl) (by kernel_rfl) (fun _ _ _ h => h) (Or.inr ⟨by rfl, rfl⟩) hHeld ?_
    try simp only [Act.put, List.setIfInBounds_toArray, List.set_cons_zero, List.set_cons_succ]
    -- 9: t16 := fieldAddr 23 t15 1 : 0   [if ⟨3, false⟩]
    refine wpB_take (i := 9) (v := undef) (get_of_drop rfl) (by kernel_rfl) (by kernel_rfl) (by kernel_rfl) (by kernel_rfl) (fun _ _ _ h => h) (Or.inr ⟨by rfl, rfl⟩) hHeld ?_
    try simp only [Act.put, List.setIfInBounds_toArray, List.set_cons_zero, List.set_cons_succ]
    -- 10: t17 := load 3 t16 : 3   [if ⟨3, false⟩]
    refine wpB_take (i := 10) (v := undef) (get_of_drop rfl) (by kernel_rfl) (by kernel_rfl) (by kernel_rfl) (by kernel_rfl) (fun _ _ _ h => h) (Or.inr ⟨by rfl, rfl⟩) hHeld ?_
    try simp only [Act.put, List.setIfInBounds_toArray, List.set_cons_zero, List.set_cons_succ]
    -- 11: t18 := binOp BinOp.neq 3 t12 t17 3 : 4   [if ⟨3, false⟩]
    refine wpB_take (i := 11) (v := undef) (get_of_drop rfl) (by kernel_rfl) (by kernel_rfl) (by kernel_rfl) (by kernel_rfl) (fun _ _ _ h => h) (Or.inr ⟨by rfl, rfl⟩) hHeld ?_
    try simp only [Act.put, List.setIfInBounds_toArray, List.set_cons_zero, List.set_cons_succ]
    -- 12: t19 := pick t10 #true t18 : 4
    refine wpB_take (i := 12) (v := ?_) (get_of_drop rfl) (by kernel_rfl) (by kernel_rfl) (by kernel_rfl) (by kernel_rfl) (fun _ _ _ h => h) (Or.inl ⟨by rfl, ?_⟩) hHeld ?_
    rotate_left
    · (intro w hSw; (try dsimp only at hSw); go_simp <;> with_reducible rfl)
    try simp only [Act.put, List.setIfInBounds_toArray, List.set_cons_zero, List.set_cons_succ]
    -- 13: t20 := move t19 : 4
    refine wpB_take (i := 13) (v := ?_) (get_of_drop rfl) (by kernel_rfl) (by kernel_rfl) (by kernel_rfl) (by kernel_rfl) (fun _ _ _ h => h) (Or.inl ⟨by rfl, ?_⟩) hHeld ?_
    rotate_left
    · (intro w hSw; (try dsimp only at hSw); go_simp <;> with_reducible rfl)
    try simp only [Act.put, List.setIfInBounds_toArray, List.set_cons_zero, List.set_cons_succ]
    -- 14: t21 := fieldAddr 41 t3 2 : 0   [if ⟨13, false⟩]
    refine wpB_take (i := 14) (v := undef) (get_of_drop rfl) (by kernel_rfl) (by kernel_rfl) (by kernel_rfl) (by kernel_rfl) (fun _ _ _ h => h) (Or.inr ⟨by rfl, rfl⟩) hHeld ?_
    try simp only [Act.put, List.setIfInBounds_toArray, List.set_cons_zero, List.set_cons_succ]
    -- 15: t22 := load 3 t21 : 3   [if ⟨13, false⟩]
    refine wpB_take (i := 15) (v := undef) (get_of_drop rfl) (by kernel_rfl) (by kernel_rfl) (by kernel_rfl) (by kernel_rfl) (fun _ _ _ h => h) (Or.inr ⟨by rfl, rfl⟩) hHeld ?_
    try simp only [Act.put, List.setIfInBounds_toArray, List.set_cons_zero, List.set_cons_succ]
    -- 16: t23 := move t0 : 30   [if ⟨13, false⟩]
    refine wpB_take (i := 16) (v := undef) (get_of_drop rfl) (by kernel_rfl) (by kernel_rfl) (by kernel_rfl) (by kernel_rfl) (fun _ _ _ h => h) (Or.inr ⟨by rfl, rfl⟩) hHeld ?_
    try simp only [Act.put, List.setIfInBounds_toArray, List.set_cons_zero, List.set_cons_succ]
    -- 17: t24 := nilCheck t23 : 0   [if ⟨13, false⟩]
    refine wpB_take (i := 17) (v := undef) (get_of_drop rfl) (by kernel_rfl) (by kernel_rfl) (by kernel_rfl) (by kernel_rfl) (fun _ _ _ h => h) (Or.inr ⟨by rfl, rfl⟩) hHeld ?_
    try simp only [Act.put, List.setIfInBounds_toArray, List.set_cons_zero, List.set_cons_succ]
    -- 18: t25 := fieldAddr 100 t24 0 : 0   [if ⟨13, false⟩]
    refine wpB_take (i := 18) (v := undef) (get_of_drop rfl) (by kernel_rfl) (by kernel_rfl) (by kernel_rfl) (by kernel_rfl) (fun _ _ _ h => h) (Or.inr ⟨by rfl, rfl⟩) hHeld ?_
    try simp only [Act.put, List.setIfInBounds_toArray, List.set_cons_zero, List.set_cons_succ]
    -- 19: t26 := fieldAddr 23 t25 1 : 0   [if ⟨13, false⟩]
    refine wpB_take (i := 19) (v := undef) (get_of_drop rfl) (by kernel_rfl) (by kernel_rfl) (by kernel_rfl) (by kernel_rfl) (fun _ _ _ h => h) (Or.inr ⟨by rfl, rfl⟩) hHeld ?_
    try simp only [Act.put, List.setIfInBounds_toArray, List.set_cons_zero, List.set_cons_succ]
    -- 20: t27 := load 3 t26 : 3   [if ⟨13, false⟩]
    refine wpB_take (i := 20) (v := undef) (get_of_drop rfl) (by kernel_rfl) (by kernel_rfl) (by kernel_rfl) (by kernel_rfl) (fun _ _ _ h => h) (Or.inr ⟨by rfl, rfl⟩) hHeld ?_
    try simp only [Act.put, List.setIfInBounds_toArray, List.set_cons_zero, List.set_cons_succ]
    -- 21: t28 := binOp BinOp.eql 3 t22 t27 3 : 4   [if ⟨13, false⟩]
    refine wpB_take (i := 21) (v := undef) (get_of_drop rfl) (by kernel_rfl) (by kernel_rfl) (by kernel_rfl) (by kernel_rfl) (fun _ _ _ h => h) (Or.inr ⟨by rfl, rfl⟩) hHeld ?_
    try simp only [Act.put, List.setIfInBounds_toArray, List.set_cons_zero, List.set_cons_succ]
    -- 22: t29 := pick t20 #true t28 : 4
    refine wpB_take (i := 22) (v := ?_) (get_of_drop rfl) (by kernel_rfl) (by kernel_rfl) (by kernel_rfl) (by kernel_rfl) (fun _ _ _ h => h) (Or.inl ⟨by rfl, ?_⟩) hHeld ?_
    rotate_left
    · (intro w hSw; (try dsimp only at hSw); go_simp <;> with_reducible rfl)
    try simp only [Act.put, List.setIfInBounds_toArray, List.set_cons_zero, List.set_cons_succ]
    -- 23: t30 := move t29 : 4
    refine wpB_take (i := 23) (v := ?_) (get_of_drop rfl) (by kernel_rfl) (by kernel_rfl) (by kernel_rfl) (by kernel_rfl) (fun _ _ _ h => h) (Or.inl ⟨by rfl, ?_⟩) hHeld ?_
    rotate_left
    · (intro w hSw; (try dsimp only at hSw); go_simp <;> with_reducible rfl)
    try simp only [Act.put, List.setIfInBounds_toArray, List.set_cons_zero, List.set_cons_succ]
    -- 24: t31 := fieldAddr 41 t3 2 : 0   [if ⟨23, false⟩]
    refine wpB_take (i := 24) (v := undef) (get_of_drop rfl) (by kernel_rfl) (by kernel_rfl) (by kernel_rfl) (by kernel_rfl) (fun _ _ _ h => h) (Or.inr ⟨by rfl, rfl⟩) hHeld ?_
    try simp only [Act.put, List.setIfInBounds_toArray, List.set_cons_zero, List.set_cons_succ]
    -- 25: t32 := load 3 t31 : 3   [if ⟨23, false⟩]
    refine wpB_take (i := 25) (v := undef) (get_of_drop rfl) (by kernel_rfl) (by kernel_rfl) (by kernel_rfl) (by kernel_rfl) (fun _ _ _ h => h) (Or.inr ⟨by rfl, rfl⟩) hHeld ?_
    try simp only [Act.put, List.setIfInBounds_toArray, List.set_cons_zero, List.set_cons_succ]
    -- 26: t33 := move t0 : 30   [if ⟨23, false⟩]
    refine wpB_take (i := 26) (v := undef) (get_of_drop rfl) (by kernel_rfl) (by kernel_rfl) (by kernel_rfl) (by kernel_rfl) (fun _ _ _ h => h) (Or.inr ⟨by rfl, rfl⟩) hHeld ?_
    try simp only [Act.put, List.setIfInBounds_toArray, List.set_cons_zero, List.set_cons_succ]
    -- 27: t34 := nilCheck t33 : 0   [if ⟨23, false⟩]
    refine wpB_take (i := 27) (v := undef) (get_of_drop rfl) (by kernel_rfl) (by kernel_rfl) (by kernel_rfl) (by kernel_rfl) (fun _ _ _ h => h) (Or.inr ⟨by rfl, rfl⟩) hHeld ?_
    try simp only [Act.put, List.setIfInBounds_toArray, List.set_cons_zero, List.set_cons_succ]
    -- 28: t35 := fieldAddr 100 t34 0 : 0   [if ⟨23, false⟩]
    refine wpB_take (i := 28) (v := undef) (get_of_drop rfl) (by kernel_rfl) (by kernel_rfl) (by kernel_rfl) (by kernel_rfl) (fun _ _ _ h => h) (Or.inr ⟨by rfl, rfl⟩) hHeld ?_
    try simp only [Act.put, List.setIfInBounds_toArray, List.set_cons_zero, List.set_cons_succ]
    -- 29: t36 := fieldAddr 23 t35 0 : 0   [if ⟨23, false⟩]
    refine wpB_take (i := 29) (v := undef) (get_of_drop rfl) (by kernel_rfl) (by kernel_rfl) (by kernel_rfl) (by kernel_rfl) (fun _ _ _ h => h) (Or.inr ⟨by rfl, rfl⟩) hHeld ?_
    try simp only [Act.put, List.setIfInBounds_toArray, List.set_cons_zero, List.set_cons_succ]
    -- 30: t37 := load 3 t36 : 3   [if ⟨23, false⟩]
    refine wpB_take (i := 30) (v := undef) (get_of_drop rfl) (by kernel_rfl) (by kernel_rfl) (by kernel_rfl) (by kernel_rfl) (fun _ _ _ h => h) (Or.inr ⟨by rfl, rfl⟩) hHeld ?_
    try simp only [Act.put, List.setIfInBounds_toArray, List.set_cons_zero, List.set_cons_succ]
    -- 31: t38 := binOp BinOp.geq 3 t32 t37 3 : 4   [if ⟨23, false⟩]
    refine wpB_take (i := 31) (v := undef) (get_of_drop rfl) (by kernel_rfl) (by kernel_rfl) (by kernel_rfl) (by kernel_rfl) (fun _ _ _ h => h) (Or.inr ⟨by rfl, rfl⟩) hHeld ?_
    try simp only [Act.put, List.setIfInBounds_toArray, List.set_cons_zero, List.set_cons_succ]
    -- 32: t39 := pick t30 #true t38 : 4
    refine wpB_take (i := 32) (v := ?_) (get_of_drop rfl) (by kernel_rfl) (by kernel_rfl) (by kernel_rfl) (by kernel_rfl) (fun _ _ _ h => h) (Or.inl ⟨by rfl, ?_⟩) hHeld ?_
    rotate_left
    · (intro w hSw; (try dsimp only at hSw); go_simp <;> with_reducible rfl)
    try simp only [Act.put, List.setIfInBounds_toArray, List.set_cons_zero, List.set_cons_succ]
    refine wpB_done (by kernel_rfl) ?_ _
    clear hmr
    go_wp2_with fail
    go_ret2
    have e1 : deliverR r m = (r, 10) := by unfold deliverR; rw [if_pos HNO.out]
    rw [e1]
    exact Stood.none_ HH.out HO.out (C1.out.trans hHeld (fun _ h _ => h)) rfl
  have HMR := hid hmr
  by_cases hd1 : m.dst = r.id
  case neg =>
    have HNO := hid (show meantR r m = false by rw [Bool.eq_false_iff]; intro h; exact hd1 (meantR_iff.1 h).2.1)
    have hd2 : (m.dst != r.id) = true := by simp [hd1]
    clear hd1
    refine wpB_start (fun wx : World => Chg (fun _ => False) w1 wx) (by kernel_rfl) ?_
    have hHeld : (fun wx : World => Chg (fun _ => False) w1 wx) _ := (Chg.refl (fun _ => False) w1).drew
    -- 0: t7 := load 41 t3 : 41
    refine wpB_take (i := 0) (v := ?_) (get_of_drop rfl) (by kernel_rfl) (by kernel_rfl) (by kernel_rfl) (by kernel_rfl) (fun _ _ _ h => h) (Or.inl ⟨by rfl, ?_⟩) hHeld ?_
    rotate_left
    · (intro w hSw; (try dsimp only at hSw); go_simp <;> with_reducible rfl)
    try simp only [Act.put, List.setIfInBounds_toArray, List.set_cons_zero, List.set_cons_succ]
    -- 1: t8 := CALL fn32(t7) : 4
    refine wpB_act (i := 1) (by kernel_rfl) (get_of_drop rfl) (fun K hK => ?_)
    go_simp
    refine (msgright_any (HM.out.chg hHeld (fun _ _ h => h))).mono ?_
    rintro e' wy ⟨rfl, hwy⟩
    have HW := hid (show Chg (fun _ => False) w1 wy from hHeld.trans hwy (fun _ h _ => h))
    refine hK.out _ _ ?_ (fun hHeld2 => ?_)
    · first | assumption | exact HW.out
    clear hHeld hK K
    have hHeld := hHeld2
    clear hHeld2
    try simp only [Act.put, List.setIfInBounds_toArray, List.set_cons_zero, List.set_cons_succ]
    -- 2: t9 := unOp UnOp.not 4 t8 : 4
    refine wpB_take (i := 2) (v := ?_) (get_of_drop rfl) (by kernel_rfl) (by kernel_rfl) (by kernel_rfl) (by kernel_rfl) (fun _ _ _ h => h) (Or.inl ⟨by rfl, ?_⟩) hHeld ?_
    rotate_left
    · (intro w hSw; (try dsimp only at hSw); go_simp <;> with_reducible rfl)
    try simp only [Act.put, List.setIfInBounds_toArray, List.set_cons_zero, List.set_cons_succ]
    -- 3: t10 := move t9 : 4
    refine wpB_take (i := 3) (v := ?_) (get_of_drop rfl) (by kernel_rfl) (by kernel_rfl) (by kernel_rfl) (by kernel_rfl) (fun _ _ _ h => h) (Or.inl ⟨by rfl, ?_⟩) hHeld ?_
    rotate_left
    · (intro w hSw; (try dsimp only at hSw); go_simp <;> with_reducible rfl)
    try simp only [Act.put, List.setIfInBounds_toArray, List.set_cons_zero, List.set_cons_succ]
    -- 4: t11 := fieldAddr 41 t3 3 : 0   [if ⟨3, false⟩]
    refine wpB_take (i := 4) (v := ?_) (get_of_drop rfl) (by kernel_rfl) (by kernel_rfl) (by kernel_rfl) (by kernel_rfl) (fun _ _ _ h => h) (Or.inl ⟨by rfl, ?_⟩) hHeld ?_
    rotate_left
    · (intro w hSw; (try dsimp only at hSw); go_simp <;> with_reducible rfl)
    try simp only [Act.put, List.setIfInBounds_toArray, List.set_cons_zero, List.set_cons_succ]
    -- 5: t12 := load 3 t11 : 3   [if ⟨3, false⟩]
    refine wpB_take (i := 5) (v := ?_) (get_of_drop rfl) (by kernel_rfl) (by kernel_rfl) (by kernel_rfl) (by kernel_rfl) (fun _ _ _ h => h) (Or.inl ⟨by rfl, ?_⟩) hHeld ?_
    rotate_left
    · (intro w hSw; (try dsimp only at hSw); go_simp <;> with_reducible rfl)
    try simp only [Act.put, List.setIfInBounds_toArray, List.set_cons_zero, List.set_cons_succ]
    -- 6: t13 := move t0 : 30   [if ⟨3, false⟩]
    refine wpB_take (i := 6) (v := ?_) (get_of_drop rfl) (by kernel_rfl) (by kernel_rfl) (by kernel_rfl) (by kernel_rfl) (fun _ _ _ h => h) (Or.inl ⟨by rfl, ?_⟩) hHeld ?_
    rotate_left
    · (intro w hSw; (try dsimp only at hSw); go_simp <;> with_reducible rfl)
    try simp only [Act.put, List.setIfInBounds_toArray, List.set_cons_zero, List.set_cons_succ]
    -- 7: t14 := nilCheck t13 : 0   [if ⟨3, false⟩]
    refine wpB_take (i := 7) (v := ?_) (get_of_drop rfl) (by kernel_rfl) (by kernel_rfl) (by kernel_rfl) (by kernel_rfl) (fun _ _ _ h => h) (Or.inl ⟨by rfl, ?_⟩) hHeld ?_
    rotate_left
    · (intro w hSw; (try dsimp only at hSw); go_simp <;> with_reducible rfl)
    try simp only [Act.put, List.setIfInBounds_toArray, List.set_cons_zero, List.set_cons_succ]
    -- 8: t15 := fieldAddr 100 t14 0 : 0   [if ⟨3, false⟩]
    refine wpB_take (i := 8) (v := ?_) (get_of_drop rfl) (by kernel_rfl) (by kernel_rfl) (by kernel_rfl) (by kernel_rfl) (fun _ _ _ h => h) (Or.inl ⟨by rfl, ?_⟩) hHeld ?_
    rotate_left
    · (intro w hSw; (try dsimp only at hSw); go_simp <;> with_reducible rfl)
    try simp only [Act.put, List.setIfInBounds_toArray, List.set_cons_zero, List.set_cons_succ]
    -- 9: t16 := fieldAddr 23 t15 1 : 0   [if ⟨3, false⟩]
    refine wpB_take (i := 9) (v := ?_) (get_of_drop rfl) (by kernel_rfl) (by kernel_rfl) (by kernel_rfl) (by kernel_rfl) (fun _ _ _ h => h) (Or.inl ⟨by rfl, ?_⟩) hHeld ?_
    rotate_left
    · (intro w hSw; (try dsimp only at hSw); go_simp <;> with_reducible rfl)
    try simp only [Act.put, List.setIfInBounds_toArray, List.set_cons_zero, List.set_cons_succ]
    -- 10: t17 := load 3 t16 : 3   [if ⟨3, false⟩]
    refine wpB_take (i := 10) (v := ?_) (get_of_drop rfl) (by kernel_rfl) (by kernel_rfl) (by kernel_rfl) (by kernel_rfl) (fun _ _ _ h => h) (Or.inl ⟨by rfl, ?_⟩) hHeld ?_
    rotate_left
    · (intro w hSw; (try dsimp only at hSw); go_simp <;> with_reducible rfl)
    try simp only [Act.put, List.setIfInBounds_toArray, List.set_cons_zero, List.set_cons_succ]
    -- 11: t18 := binOp BinOp.neq 3 t12 t17 3 : 4   [if ⟨3, false⟩]
    refine wpB_take (i := 11) (v := ?_) (get_of_drop rfl) (by kernel_rfl) (by kernel_rfl) (by kernel_rfl) (by kernel_rfl) (fun _ _ _ h => h) (Or.inl ⟨by rfl, ?_⟩) hHeld ?_
    rotate_left
    · (intro w hSw; (try dsimp only at hSw); go_simp <;> with_reducible rfl)
    try simp only [Act.put, List.setIfInBounds_toArray, List.set_cons_zero, List.set_cons_succ]
    -- 12: t19 := pick t10 #true t18 : 4
    refine wpB_take (i := 12) (v := ?_) (get_of_drop rfl) (by kernel_rfl) (by kernel_rfl) (by kernel_rfl) (by kernel_rfl) (fun _ _ _ h => h) (Or.inl ⟨by rfl, ?_⟩) hHeld ?_
    rotate_left
    · (intro w hSw; (try dsimp only at hSw); go_simp <;> with_reducible rfl)
    try simp only [Act.put, List.setIfInBounds_toArray, List.set_cons_zero, List.set_cons_succ]
    -- 13: t20 := move t19 : 4
    refine wpB_take (i := 13) (v := ?_) (get_of_drop rfl) (by kernel_rfl) (by kernel_rfl) (by kernel_rfl) (by kernel_rfl) (fun _ _ _ h => h) (Or.inl ⟨by rfl, ?_⟩) hHeld ?_
    rotate_left
    · (intro w hSw; (try dsimp only at hSw); go_simp <;> with_reducible rfl)
    try simp only [Act.put, List.setIfInBounds_toArray, List.set_cons_zero, List.set_cons_succ]
    -- 14: t21 := fieldAddr 41 t3 2 : 0   [if ⟨13, false⟩]
    refine wpB_take (i := 14) (v := undef) (get_of_drop rfl) (by kernel_rfl) (by kernel_rfl) (by kernel_rfl) (by kernel_rfl) (fun _ _ _ h => h) (Or.inr ⟨by rfl, rfl⟩) hHeld ?_
    try simp only [Act.put, List.setIfInBounds_toArray, List.set_cons_zero, List.set_cons_succ]
    -- 15: t22 := load 3 t21 : 3   [if ⟨13, false⟩]
    refine wpB_take (i := 15) (v := undef) (get_of_drop rfl) (by kernel_rfl) (by kernel_rfl) (by kernel_rfl) (by kernel_rfl) (fun _ _ _ h => h) (Or.inr ⟨by rfl, rfl⟩) hHeld ?_
    try simp only [Act.put, List.setIfInBounds_toArray, List.set_cons_zero, List.set_cons_succ]
    -- 16: t23 := move t0 : 30   [if ⟨13, false⟩]
    refine wpB_take (i := 16) (v := undef) (get_of_drop rfl) (by kernel_rfl) (by kernel_rfl) (by kernel_rfl) (by kernel_rfl) (fun _ _ _ h => h) (Or.inr ⟨by rfl, rfl⟩) hHeld ?_
    try simp only [Act.put, List.setIfInBounds_toArray, List.set_cons_zero, List.set_cons_succ]
    -- 17: t24 := nilCheck t23 : 0   [if ⟨13, false⟩]
    refine wpB_take (i := 17) (v := undef) (get_of_drop rfl) (by kernel_rfl) (by kernel_rfl) (by kernel_rfl) (by kernel_rfl) (fun _ _ _ h => h) (Or.inr ⟨by rfl, rfl⟩) hHeld ?_
    try simp only [Act.put, List.setIfInBounds_toArray, List.set_cons_zero, List.set_cons_succ]
    -- 18: t25 := fieldAddr 100 t24 0 : 0   [if ⟨13, false⟩]
    refine wpB_take (i := 18) (v := undef) (get_of_drop rfl) (by kernel_rfl) (by kernel_rfl) (by kernel_rfl) (by kernel_rfl) (fun _ _ _ h => h) (Or.inr ⟨by rfl, rfl⟩) hHeld ?_
    try simp only [Act.put, List.setIfInBounds_toArray, List.set_cons_zero, List.set_cons_succ]
    -- 19: t26 := fieldAddr 23 t25 1 : 0   [if ⟨13, false⟩]
    refine wpB_take (i := 19) (v := undef) (get_of_drop rfl) (by kernel_rfl) (by kernel_rfl) (by kernel_rfl) (by kernel_rfl) (fun _ _ _ h => h) (Or.inr ⟨by rfl, rfl⟩) hHeld ?_
    try simp only [Act.put, List.setIfInBounds_toArray, List.set_cons_zero, List.set_cons_succ]
    -- 20: t27 := load 3 t26 : 3   [if ⟨13, false⟩]
    refine wpB_take (i := 20) (v := undef) (get_of_drop rfl) (by kernel_rfl) (by kernel_rfl) (by kernel_rfl) (by kernel_rfl) (fun _ _ _ h => h) (Or.inr ⟨by rfl, rfl⟩) hHeld ?_
    try simp only [Act.put, List.setIfInBounds_toArray, List.set_cons_zero, List.set_cons_succ]
    -- 21: t28 := binOp BinOp.eql 3 t22 t27 3 : 4   [if ⟨13, false⟩]
    refine wpB_take (i := 21) (v := undef) (get_of_drop rfl) (by kernel_rfl) (by kernel_rfl) (by kernel_rfl) (by kernel_rfl) (fun _ _ _ h => h) (Or.inr ⟨by rfl, rfl⟩) hHeld ?_
    try simp only [Act.put, List.setIfInBounds_toArray, List.set_cons_zero, List.set_cons_succ]
    -- 22: t29 := pick t20 #true t28 : 4
    refine wpB_take (i := 22) (v := ?_) (get_of_drop rfl) (by kernel_rfl) (by kernel_rfl) (by kernel_rfl) (by kernel_rfl) (fun _ _ _ h => h) (Or.inl ⟨by rfl, ?_⟩) hHeld ?_
    rotate_left
    · (intro w hSw; (try dsimp only at hSw); go_simp <;> with_reducible rfl)
    try simp only [Act.put, List.setIfInBounds_toArray, List.set_cons_zero, List.set_cons_succ]
    -- 23: t30 := move t29 : 4
    refine wpB_take (i := 23) (v := ?_) (get_of_drop rfl) (by kernel_rfl) (by kernel_rfl) (by kernel_rfl) (by kernel_rfl) (fun _ _ _ h => h) (Or.inl ⟨by rfl, ?_⟩) hHeld ?_
    rotate_left
    · (intro w hSw; (try dsimp only at hSw); go_simp <;> with_reducible rfl)
    try simp only [Act.put, List.setIfInBounds_toArray, List.set_cons_zero, List.set_cons_succ]
    -- 24: t31 := fieldAddr 41 t3 2 : 0   [if ⟨23, false⟩]
    refine wpB_take (i := 24) (v := undef) (get_of_drop rfl) (by kernel_rfl) (by kernel_rfl) (by kernel_rfl) (by kernel_rfl) (fun _ _ _ h => h) (Or.inr ⟨by rfl, rfl⟩) hHeld ?_
    try simp only [Act.put, List.setIfInBounds_toArray, List.set_cons_zero, List.set_cons_succ]
    -- 25: t32 := load 3 t31 : 3   [if ⟨23, false⟩]
    refine wpB_take (i := 25) (v := undef) (get_of_drop rfl) (by kernel_rfl) (by kernel_rfl) (by kernel_rfl) (by kernel_rfl) (fun _ _ _ h => h) (Or.inr ⟨by rfl, rfl⟩) hHeld ?_
    try simp only [Act.put, List.setIfInBounds_toArray, List.set_cons_zero, List.set_cons_succ]
    -- 26: t33 := move t0 : 30   [if ⟨23, false⟩]
    refine wpB_take (i := 26) (v := undef) (get_of_drop rfl) (by kernel_rfl) (by kernel_rfl) (by kernel_rfl) (by kernel_rfl) (fun _ _ _ h => h) (Or.inr ⟨by rfl, rfl⟩) hHeld ?_
    try simp only [Act.put, List.setIfInBounds_toArray, List.set_cons_zero, List.set_cons_succ]
    -- 27: t34 := nilCheck t33 : 0   [if ⟨23, false⟩]
    refine wpB_take (i := 27) (v := undef) (get_of_drop rfl) (by kernel_rfl) (by kernel_rfl) (by kernel_rfl) (by kernel_rfl) (fun _ _ _ h => h) (Or.inr ⟨by rfl, rfl⟩) hHeld ?_
    try simp only [Act.put, List.setIfInBounds_toArray, List.set_cons_zero, List.set_cons_succ]
    -- 28: t35 := fieldAddr 100 t34 0 : 0   [if ⟨23, false⟩]
    refine wpB_take (i := 28) (v := undef) (get_of_drop rfl) (by kernel_rfl) (by kernel_rfl) (by kernel_rfl) (by kernel_rfl) (fun _ _ _ h => h) (Or.inr ⟨by rfl, rfl⟩) hHeld ?_
    try simp only [Act.put, List.setIfInBounds_toArray, List.set_cons_zero, List.set_cons_succ]
    -- 29: t36 := fieldAddr 23 t35 0 : 0   [if ⟨23, false⟩]
    refine wpB_take (i := 29) (v := undef) (get_of_drop rfl) (by kernel_rfl) (by kernel_rfl) (by kernel_rfl) (by kernel_rfl) (fun _ _ _ h => h) (Or.inr ⟨by rfl, rfl⟩) hHeld ?_
    try simp only [Act.put, List.setIfInBounds_toArray, List.set_cons_zero, List.set_cons_succ]
    -- 30: t37 := load 3 t36 : 3   [if ⟨23, false⟩]
    refine wpB_take (i := 30) (v := undef) (get_of_drop rfl) (by kernel_rfl) (by kernel_rfl) (by kernel_rfl) (by kernel_rfl) (fun _ _ _ h => h) (Or.inr ⟨by rfl, rfl⟩) hHeld ?_
    try simp only [Act.put, List.setIfInBounds_toArray, List.set_cons_zero, List.set_cons_succ]
    -- 31: t38 := binOp BinOp.geq 3 t32 t37 3 : 4   [if ⟨23, false⟩]
    refine wpB_take (i := 31) (v := undef) (get_of_drop rfl) (by kernel_rfl) (by kernel_rfl) (by kernel_rfl) (by kernel_rfl) (fun _ _ _ h => h) (Or.inr ⟨by rfl, rfl⟩) hHeld ?_
    try simp only [Act.put, List.setIfInBounds_toArray, List.set_cons_zero, List.set_cons_succ]
    -- 32: t39 := pick t30 #true t38 : 4
    refine wpB_take (i := 32) (v := ?_) (get_of_drop rfl) (by kernel_rfl) (by kernel_rfl) (by kernel_rfl) (by kernel_rfl) (fun _ _ _ h => h) (Or.inl ⟨by rfl, ?_⟩) hHeld ?_
    rotate_left
    · (intro w hSw; (try dsimp only at hSw); go_simp <;> with_reducible rfl)
    try simp only [Act.put, List.setIfInBounds_toArray, List.set_cons_zero, List.set_cons_succ]
    refine wpB_done (by kernel_rfl) ?_ _
    clear hmr hd2
    go_wp2_with fail
    go_ret2
    have e1 : deliverR r m = (r, 10) := by unfold deliverR; rw [if_pos HNO.out]
    rw [e1]
    exact Stood.none_ HH.out HO.out (C1.out.trans hHeld (fun _ h _ => h)) rfl
  have hd2 : (m.dst != r.id) = false := by simp [hd1]
  have HD := hid hd1
  clear hd1
  by_cases hs1 : m.src = r.id
  case pos =>
    have HNO := hid (show meantR r m = false by rw [Bool.eq_false_iff]; intro h; exact (meantR_iff.1 h).2.2.1 hs1)
    have hs2 : (m.src == r.id) = true := by simp [hs1]
    clear hs1
    refine wpB_start (fun wx : World => Chg (fun _ => False) w1 wx) (by kernel_rfl) ?_
    have hHeld : (fun wx : World => Chg (fun _ => False) w1 wx) _ := (Chg.refl (fun _ => False) w1).drew
    -- 0: t7 := load 41 t3 : 41
    refine wpB_take (i := 0) (v := ?_) (get_of_drop rfl) (by kernel_rfl) (by kernel_rfl) (by kernel_rfl) (by kernel_rfl) (fun _ _ _ h => h) (Or.inl ⟨by rfl, ?_⟩) hHeld ?_
    rotate_left
    · (intro w hSw; (try dsimp only at hSw); go_simp <;> with_reducible rfl)
    try simp only [Act.put, List.setIfInBounds_toArray, List.set_cons_zero, List.set_cons_succ]
    -- 1: t8 := CALL fn32(t7) : 4
    refine wpB_act (i := 1) (by kernel_rfl) (get_of_drop rfl) (fun K hK => ?_)
    go_simp
    refine (msgright_any (HM.out.chg hHeld (fun _ _ h => h))).mono ?_
    rintro e' wy ⟨rfl, hwy⟩
    have HW := hid (show Chg (fun _ => False) w1 wy from hHeld.trans hwy (fun _ h _ => h))
    refine hK.out _ _ ?_ (fun hHeld2 => ?_)
    · first | assumption | exact HW.out
    clear hHeld hK K
    have hHeld := hHeld2
    clear hHeld2
    try simp only [Act.put, List.setIfInBounds_toArray, List.set_cons_zero, List.set_cons_succ]
    -- 2: t9 := unOp UnOp.not 4 t8 : 4
    refine wpB_take (i := 2) (v := ?_) (get_of_drop rfl) (by kernel_rfl) (by kernel_rfl) (by kernel_rfl) (by kernel_rfl) (fun _ _ _ h => h) (Or.inl ⟨by rfl, ?_⟩) hHeld ?_
    rotate_left
    · (intro w hSw; (try dsimp only at hSw); go_simp <;> with_reducible rfl)
    try simp only [Act.put, List.setIfInBounds_toArray, List.set_cons_zero, List.set_cons_succ]
    -- 3: t10 := move t9 : 4
    refine wpB_take (i := 3) (v := ?_) (get_of_drop rfl) (by kernel_rfl) (by kernel_rfl) (by kernel_rfl) (by kernel_rfl) (fun _ _ _ h => h) (Or.inl ⟨by rfl, ?_⟩) hHeld ?_
    rotate_left
    · (intro w hSw; (try dsimp only at hSw); go_simp <;> with_reducible rfl)
    try simp only [Act.put, List.setIfInBounds_toArray, List.set_cons_zero, List.set_cons_succ]
    -- 4: t11 := fieldAddr 41 t3 3 : 0   [if ⟨3, false⟩]
    refine wpB_take (i := 4) (v := ?_) (get_of_drop rfl) (by kernel_rfl) (by kernel_rfl) (by kernel_rfl) (by kernel_rfl) (fun _ _ _ h => h) (Or.inl ⟨by rfl, ?_⟩) hHeld ?_
    rotate_left
    · (intro w hSw; (try dsimp only at hSw); go_simp <;> with_reducible rfl)
    try simp only [Act.put, List.setIfInBounds_toArray, List.set_cons_zero, List.set_cons_succ]
    -- 5: t12 := load 3 t11 : 3   [if ⟨3, false⟩]
    refine wpB_take (i := 5) (v := ?_) (get_of_drop rfl) (by kernel_rfl) (by kernel_rfl) (by kernel_rfl) (by kernel_rfl) (fun _ _ _ h => h) (Or.inl ⟨by rfl, ?_⟩) hHeld ?_
    rotate_left
    · (intro w hSw; (try dsimp only at hSw); go_simp <;> with_reducible rfl)
    try simp only [Act.put, List.setIfInBounds_toArray, List.set_cons_zero, List.set_cons_succ]
    -- 6: t13 := move t0 : 30   [if ⟨3, false⟩]
    refine wpB_take (i := 6) (v := ?_) (get_of_drop rfl) (by kernel_rfl) (by kernel_rfl) (by kernel_rfl) (by kernel_rfl) (fun _ _ _ h => h) (Or.inl ⟨by rfl, ?_⟩) hHeld ?_
    rotate_left
    · (intro w hSw; (try dsimp only at hSw); go_simp <;> with_reducible rfl)
    try simp only [Act.put, List.setIfInBounds_toArray, List.set_cons_zero, List.set_cons_succ]
    -- 7: t14 := nilCheck t13 : 0   [if ⟨3, false⟩]
    refine wpB_take (i := 7) (v := ?_) (get_of_drop rfl) (by kernel_rfl) (by kernel_rfl) (by kernel_rfl) (by kernel_rfl) (fun _ _ _ h => h) (Or.inl ⟨by rfl, ?_⟩) hHeld ?_
    rotate_left
    · (intro w hSw; (try dsimp only at hSw); go_simp <;> with_reducible rfl)
    try simp only [Act.put, List.setIfInBounds_toArray, List.set_cons_zero, List.set_cons_succ]
    -- 8: t15 := fieldAddr 100 t14 0 : 0   [if ⟨3, false⟩]
    refine wpB_take (i := 8) (v := ?_) (get_of_drop rfl) (by kernel_rfl) (by kernel_rfl) (by kernel_rfl) (by kernel_rfl) (fun _ _ _ h => h) (Or.inl ⟨by rfl, ?_⟩) hHeld ?_
    rotate_left
    · (intro w hSw; (try dsimp only at hSw); go_simp <;> with_reducible rfl)
    try simp only [Act.put, List.setIfInBounds_toArray, List.set_cons_zero, List.set_cons_succ]
    -- 9: t16 := fieldAddr 23 t15 1 : 0   [if ⟨3, false⟩]
    refine wpB_take (i := 9) (v := ?_) (get_of_drop rfl) (by kernel_rfl) (by kernel_rfl) (by kernel_rfl) (by kernel_rfl) (fun _ _ _ h => h) (Or.inl ⟨by rfl, ?_⟩) hHeld ?_
    rotate_left
    · (intro w hSw; (try dsimp only at hSw); go_simp <;> with_reducible rfl)
    try simp only [Act.put, List.setIfInBounds_toArray, List.set_cons_zero, List.set_cons_succ]
    -- 10: t17 := load 3 t16 : 3   [if ⟨3, false⟩]
    refine wpB_take (i := 10) (v := ?_) (get_of_drop rfl) (by kernel_rfl) (by kernel_rfl) (by kernel_rfl) (by kernel_rfl) (fun _ _ _ h => h) (Or.inl ⟨by rfl, ?_⟩) hHeld ?_
    rotate_left
    · (intro w hSw; (try dsimp only at hSw); go_simp <;> with_reducible rfl)
    try simp only [Act.put, List.setIfInBounds_toArray, List.set_cons_zero, List.set_cons_succ]
    -- 11: t18 := binOp BinOp.neq 3 t12 t17 3 : 4   [if ⟨3, false⟩]
    refine wpB_take (i := 11) (v := ?_) (get_of_drop rfl) (by kernel_rfl) (by kernel_rfl) (by kernel_rfl) (by kernel_rfl) (fun _ _ _ h => h) (Or.inl ⟨by rfl, ?_⟩) hHeld ?_
    rotate_left
    · (intro w hSw; (try dsimp only at hSw); go_simp <;> with_reducible rfl)
    try simp only [Act.put, List.setIfInBounds_toArray, List.set_cons_zero, List.set_cons_succ]
    -- 12: t19 := pick t10 #true t18 : 4
    refine wpB_take (i := 12) (v := ?_) (get_of_drop rfl) (by kernel_rfl) (by kernel_rfl) (by kernel_rfl) (by kernel_rfl) (fun _ _ _ h => h) (Or.inl ⟨by rfl, ?_⟩) hHeld ?_
    rotate_left
    · (intro w hSw; (try dsimp only at hSw); go_simp <;> with_reducible rfl)
    try simp only [Act.put, List.setIfInBounds_toArray, List.set_cons_zero, List.set_cons_succ]
    -- 13: t20 := move t19 : 4
    refine wpB_take (i := 13) (v := ?_) (get_of_drop rfl) (by kernel_rfl) (by kernel_rfl) (by kernel_rfl) (by kernel_rfl) (fun _ _ _ h => h) (Or.inl ⟨by rfl, ?_⟩) hHeld ?_
    rotate_left
    · (intro w hSw; (try dsimp only at hSw); go_simp <;> with_reducible rfl)
    try simp only [Act.put, List.setIfInBounds_toArray, List.set_cons_zero, List.set_cons_succ]
    -- 14: t21 := fieldAddr 41 t3 2 : 0   [if ⟨13, false⟩]
    refine wpB_take (i := 14) (v := ?_) (get_of_drop rfl) (by kernel_rfl) (by kernel_rfl) (by kernel_rfl) (by kernel_rfl) (fun _ _ _ h => h) (Or.inl ⟨by rfl, ?_⟩) hHeld ?_
    rotate_left
    · (intro w hSw; (try dsimp only at hSw); go_simp <;> with_reducible rfl)
    try simp only [Act.put, List.setIfInBounds_toArray, List.set_cons_zero, List.set_cons_succ]
    -- 15: t22 := load 3 t21 : 3   [if ⟨13, false⟩]
    refine wpB_take (i := 15) (v := ?_) (get_of_drop rfl) (by kernel_rfl) (by kernel_rfl) (by kernel_rfl) (by kernel_rfl) (fun _ _ _ h => h) (Or.inl ⟨by rfl, ?_⟩) hHeld ?_
    rotate_left
    · (intro w hSw; (try dsimp only at hSw); go_simp <;> with_reducible rfl)
    try simp only [Act.put, List.setIfInBounds_toArray, List.set_cons_zero, List.set_cons_succ]
    -- 16: t23 := move t0 : 30   [if ⟨13, false⟩]
    refine wpB_take (i := 16) (v := ?_) (get_of_drop rfl) (by kernel_rfl) (by kernel_rfl) (by kernel_rfl) (by kernel_rfl) (fun _ _ _ h => h) (Or.inl ⟨by rfl, ?_⟩) hHeld ?_
    rotate_left
    · (intro w hSw; (try dsimp only at hSw); go_simp <;> with_reducible rfl)
    try simp only [Act.put, List.setIfInBounds_toArray, List.set_cons_zero, List.set_cons_succ]
    -- 17: t24 := nilCheck t23 : 0   [if ⟨13, false⟩]
    refine wpB_take (i := 17) (v := ?_) (get_of_drop rfl) (by kernel_rfl) (by kernel_rfl) (by kernel_rfl) (by kernel_rfl) (fun _ _ _ h => h) (Or.inl ⟨by rfl, ?_⟩) hHeld ?_
    rotate_left
    · (intro w hSw; (try dsimp only at hSw); go_simp <;> with_reducible rfl)
    try simp only [Act.put, List.setIfInBounds_toArray, List.set_cons_zero, List.set_cons_succ]
    -- 18: t25 := fieldAddr 100 t24 0 : 0   [if ⟨13, false⟩]
    refine wpB_take (i := 18) (v := ?_) (get_of_drop rfl) (by kernel_rfl) (by kernel_rfl) (by kernel_rfl) (by kernel_rfl) (fun _ _ _ h => h) (Or.inl ⟨by rfl, ?_⟩) hHeld ?_
    rotate_left
    · (intro w hSw; (try dsimp only at hSw); go_simp <;> with_reducible rfl)
    try simp only [Act.put, List.setIfInBounds_toArray, List.set_cons_zero, List.set_cons_succ]
    -- 19: t26 := fieldAddr 23 t25 1 : 0   [if ⟨13, false⟩]
    refine wpB_take (i := 19) (v := ?_) (get_of_drop rfl) (by kernel_rfl) (by kernel_rfl) (by kernel_rfl) (by kernel_rfl) (fun _ _ _ h => h) (Or.inl ⟨by rfl, ?_⟩) hHeld ?_
    rotate_left
    · (intro w hSw; (try dsimp only at hSw); go_simp <;> with_reducible rfl)
    try simp only [Act.put, List.setIfInBounds_toArray, List.set_cons_zero, List.set_cons_succ]
    -- 20: t27 := load 3 t26 : 3   [if ⟨13, false⟩]
    refine wpB_take (i := 20) (v := ?_) (get_of_drop rfl) (by kernel_rfl) (by kernel_rfl) (by kernel_rfl) (by kernel_rfl) (fun _ _ _ h => h) (Or.inl ⟨by rfl, ?_⟩) hHeld ?_
    rotate_left
    · (intro w hSw; (try dsimp only at hSw); go_simp <;> with_reducible rfl)
    try simp only [Act.put, List.setIfInBounds_toArray, List.set_cons_zero, List.set_cons_succ]
    -- 21: t28 := binOp BinOp.eql 3 t22 t27 3 : 4   [if ⟨13, false⟩]
    refine wpB_take (i := 21) (v := ?_) (get_of_drop rfl) (by kernel_rfl) (by kernel_rfl) (by kernel_rfl) (by kernel_rfl) (fun _ _ _ h => h) (Or.inl ⟨by rfl, ?_⟩) hHeld ?_
    rotate_left
    · (intro w hSw; (try dsimp only at hSw); go_simp <;> with_reducible rfl)
    try simp only [Act.put, List.setIfInBounds_toArray, List.set_cons_zero, List.set_cons_succ]
    -- 22: t29 := pick t20 #true t28 : 4
    refine wpB_take (i := 22) (v := ?_) (get_of_drop rfl) (by kernel_rfl) (by kernel_rfl) (by kernel_rfl) (by kernel_rfl) (fun _ _ _ h => h) (Or.inl ⟨by rfl, ?_⟩) hHeld ?_
    rotate_left
    · (intro w hSw; (try dsimp only at hSw); go_simp <;> with_reducible rfl)
    try simp only [Act.put, List.setIfInBounds_toArray, List.set_cons_zero, List.set_cons_succ]
    -- 23: t30 := move t29 : 4
    refine wpB_take (i := 23) (v := ?_) (get_of_drop rfl) (by kernel_rfl) (by kernel_rfl) (by kernel_rfl) (by kernel_rfl) (fun _ _ _ h => h) (Or.inl ⟨by rfl, ?_⟩) hHeld ?_
    rotate_left
    · (intro w hSw; (try dsimp only at hSw); go_simp <;> with_reducible rfl)
    try simp only [Act.put, List.setIfInBounds_toArray, List.set_cons_zero, List.set_cons_succ]
    -- 24: t31 := fieldAddr 41 t3 2 : 0   [if ⟨23, false⟩]
    refine wpB_take (i := 24) (v := undef) (get_of_drop rfl) (by kernel_rfl) (by kernel_rfl) (by kernel_rfl) (by kernel_rfl) (fun _ _ _ h => h) (Or.inr ⟨by rfl, rfl⟩) hHeld ?_
    try simp only [Act.put, List.setIfInBounds_toArray, List.set_cons_zero, List.set_cons_succ]
    -- 25: t32 := load 3 t31 : 3   [if ⟨23, false⟩]
    refine wpB_take (i := 25) (v := undef) (get_of_drop rfl) (by kernel_rfl) (by kernel_rfl) (by kernel_rfl) (by kernel_rfl) (fun _ _ _ h => h) (Or.inr ⟨by rfl, rfl⟩) hHeld ?_
    try simp only [Act.put, List.setIfInBounds_toArray, List.set_cons_zero, List.set_cons_succ]
    -- 26: t33 := move t0 : 30   [if ⟨23, false⟩]
    refine wpB_take (i := 26) (v := undef) (get_of_drop rfl) (by kernel_rfl) (by kernel_rfl) (by kernel_rfl) (by kernel_rfl) (fun _ _ _ h => h) (Or.inr ⟨by rfl, rfl⟩) hHeld ?_
    try simp only [Act.put, List.setIfInBounds_toArray, List.set_cons_zero, List.set_cons_succ]
    -- 27: t34 := nilCheck t33 : 0   [if ⟨23, false⟩]
    refine wpB_take (i := 27) (v := undef) (get_of_drop rfl) (by kernel_rfl) (by kernel_rfl) (by kernel_rfl) (by kernel_rfl) (fun _ _ _ h => h) (Or.inr ⟨by rfl, rfl⟩) hHeld ?_
    try simp only [Act.put, List.setIfInBounds_toArray, List.set_cons_zero, List.set_cons_succ]
    -- 28: t35 := fieldAddr 100 t34 0 : 0   [if ⟨23, false⟩]
    refine wpB_take (i := 28) (v := undef) (get_of_drop rfl) (by kernel_rfl) (by kernel_rfl) (by kernel_rfl) (by kernel_rfl) (fun _ _ _ h => h) (Or.inr ⟨by rfl, rfl⟩) hHeld ?_
    try simp only [Act.put, List.setIfInBounds_toArray, List.set_cons_zero, List.set_cons_succ]
    -- 29: t36 := fieldAddr 23 t35 0 : 0   [if ⟨23, false⟩]
    refine wpB_take (i := 29) (v := undef) (get_of_drop rfl) (by kernel_rfl) (by kernel_rfl) (by kernel_rfl) (by kernel_rfl) (fun _ _ _ h => h) (Or.inr ⟨by rfl, rfl⟩) hHeld ?_
    try simp only [Act.put, List.setIfInBounds_toArray, List.set_cons_zero, List.set_cons_succ]
    -- 30: t37 := load 3 t36 : 3   [if ⟨23, false⟩]
    refine wpB_take (i := 30) (v := undef) (get_of_drop rfl) (by kernel_rfl) (by kernel_rfl) (by kernel_rfl) (by kernel_rfl) (fun _ _ _ h => h) (Or.inr ⟨by rfl, rfl⟩) hHeld ?_
    try simp only [Act.put, List.setIfInBounds_toArray, List.set_cons_zero, List.set_cons_succ]
    -- 31: t38 := binOp BinOp.geq 3 t32 t37 3 : 4   [if ⟨23, false⟩]
    refine wpB_take (i := 31) (v := undef) (get_of_drop rfl) (by kernel_rfl) (by kernel_rfl) (by kernel_rfl) (by kernel_rfl) (fun _ _ _ h => h) (Or.inr ⟨by rfl, rfl⟩) hHeld ?_
    try simp only [Act.put, List.setIfInBounds_toArray, List.set_cons_zero, List.set_cons_succ]
    -- 32: t39 := pick t30 #true t38 : 4
    refine wpB_take (i := 32) (v := ?_) (get_of_drop rfl) (by kernel_rfl) (by kernel_rfl) (by kernel_rfl) (by kernel_rfl) (fun _ _ _ h => h) (Or.inl ⟨by rfl, ?_⟩) hHeld ?_
    rotate_left
    · (intro w hSw; (try dsimp only at hSw); go_simp <;> with_reducible rfl)
    try simp only [Act.put, List.setIfInBounds_toArray, List.set_cons_zero, List.set_cons_succ]
    refine wpB_done (by kernel_rfl) ?_ _
    clear hmr hd2 hs2
    go_wp2_with fail
    go_ret2
    have e1 : deliverR r m = (r, 10) := by unfold deliverR; rw [if_pos HNO.out]
    rw [e1]
    exact Stood.none_ HH.out HO.out (C1.out.trans hHeld (fun _ h _ => h)) rfl
  have hs2 : (m.src == r.id) = false := by simp [hs1]
  have HS1 := hid hs1
  clear hs1
  by_cases hn1 : m.src < r.n
  case neg =>
    have HNO := hid (show meantR r m = false by rw [Bool.eq_false_iff]; intro h; exact hn1 (meantR_iff.1 h).2.2.2)
    have hn2 : r.n ≤ m.src := by omega
    clear hn1
    refine wpB_start (fun wx : World => Chg (fun _ => False) w1 wx) (by kernel_rfl) ?_
    have hHeld : (fun wx : World => Chg (fun _ => False) w1 wx) _ := (Chg.refl (fun _ => False) w1).drew
    -- 0: t7 := load 41 t3 : 41
    refine wpB_take (i := 0) (v := ?_) (get_of_drop rfl) (by kernel_rfl) (by kernel_rfl) (by kernel_rfl) (by kernel_rfl) (fun _ _ _ h => h) (Or.inl ⟨by rfl, ?_⟩) hHeld ?_
    rotate_left
    · (intro w hSw; (try dsimp only at hSw); go_simp <;> with_reducible rfl)
    try simp only [Act.put, List.setIfInBounds_toArray, List.set_cons_zero, List.set_cons_succ]
    -- 1: t8 := CALL fn32(t7) : 4
    refine wpB_act (i := 1) (by kernel_rfl) (get_of_drop rfl) (fun K hK => ?_)
    go_simp
    refine (msgright_any (HM.out.chg hHeld (fun _ _ h => h))).mono ?_
    rintro e' wy ⟨rfl, hwy⟩
    have HW := hid (show Chg (fun _ => False) w1 wy from hHeld.trans hwy (fun _ h _ => h))
    refine hK.out _ _ ?_ (fun hHeld2 => ?_)
    · first | assumption | exact HW.out
    clear hHeld hK K
    have hHeld := hHeld2
    clear hHeld2
    try simp only [Act.put, List.setIfInBounds_toArray, List.set_cons_zero, List.set_cons_succ]
    -- 2: t9 := unOp UnOp.not 4 t8 : 4
    refine wpB_take (i := 2) (v := ?_) (get_of_drop rfl) (by kernel_rfl) (by kernel_rfl) (by kernel_rfl) (by kernel_rfl) (fun _ _ _ h => h) (Or.inl ⟨by rfl, ?_⟩) hHeld ?_
    rotate_left
    · (intro w hSw; (try dsimp only at hSw); go_simp <;> with_reducible rfl)
    try simp only [Act.put, List.setIfInBounds_toArray, List.set_cons_zero, List.set_cons_succ]
    -- 3: t10 := move t9 : 4
    refine wpB_take (i := 3) (v := ?_) (get_of_drop rfl) (by kernel_rfl) (by kernel_rfl) (by kernel_rfl) (by kernel_rfl) (fun _ _ _ h => h) (Or.inl ⟨by rfl, ?_⟩) hHeld ?_
    rotate_left
    · (intro w hSw; (try dsimp only at hSw); go_simp <;> with_reducible rfl)
    try simp only [Act.put, List.setIfInBounds_toArray, List.set_cons_zero, List.set_cons_succ]
    -- 4: t11 := fieldAddr 41 t3 3 : 0   [if ⟨3, false⟩]
    refine wpB_take (i := 4) (v := ?_) (get_of_drop rfl) (by kernel_rfl) (by kernel_rfl) (by kernel_rfl) (by kernel_rfl) (fun _ _ _ h => h) (Or.inl ⟨by rfl, ?_⟩) hHeld ?_
    rotate_left
    · (intro w hSw; (try dsimp only at hSw); go_simp <;> with_reducible rfl)
    try simp only [Act.put, List.setIfInBounds_toArray, List.set_cons_zero, List.set_cons_succ]
    -- 5: t12 := load 3 t11 : 3   [if ⟨3, false⟩]
    refine wpB_take (i := 5) (v := ?_) (get_of_drop rfl) (by kernel_rfl) (by kernel_rfl) (by kernel_rfl) (by kernel_rfl) (fun _ _ _ h => h) (Or.inl ⟨by rfl, ?_⟩) hHeld ?_
    rotate_left
    · (intro w hSw; (try dsimp only at hSw); go_simp <;> with_reducible rfl)
    try simp only [Act.put, List.setIfInBounds_toArray, List.set_cons_zero, List.set_cons_succ]
    -- 6: t13 := move t0 : 30   [if ⟨3, false⟩]
    refine wpB_take (i := 6) (v := ?_) (get_of_drop rfl) (by kernel_rfl) (by kernel_rfl) (by kernel_rfl) (by kernel_rfl) (fun _ _ _ h => h) (Or.inl ⟨by rfl, ?_⟩) hHeld ?_
    rotate_left
    · (intro w hSw; (try dsimp only at hSw); go_simp <;> with_reducible rfl)
    try simp only [Act.put, List.setIfInBounds_toArray, List.set_cons_zero, List.set_cons_succ]
    -- 7: t14 := nilCheck t13 : 0   [if ⟨3, false⟩]
    refine wpB_take (i := 7) (v := ?_) (get_of_drop rfl) (by kernel_rfl) (by kernel_rfl) (by kernel_rfl) (by kernel_rfl) (fun _ _ _ h => h) (Or.inl ⟨by rfl, ?_⟩) hHeld ?_
    rotate_left
    · (intro w hSw; (try dsimp only at hSw); go_simp <;> with_reducible rfl)
    try simp only [Act.put, List.setIfInBounds_toArray, List.set_cons_zero, List.set_cons_succ]
    -- 8: t15 := fieldAddr 100 t14 0 : 0   [if ⟨3, false⟩]
    refine wpB_take (i := 8) (v := ?_) (get_of_drop rfl) (by kernel_rfl) (by kernel_rfl) (by kernel_rfl) (by kernel_rfl) (fun _ _ _ h => h) (Or.inl ⟨by rfl, ?_⟩) hHeld ?_
    rotate_left
    · (intro w hSw; (try dsimp only at hSw); go_simp <;> with_reducible rfl)
    try simp only [Act.put, List.setIfInBounds_toArray, List.set_cons_zero, List.set_cons_succ]
    -- 9: t16 := fieldAddr 23 t15 1 : 0   [if ⟨3, false⟩]
    refine wpB_take (i := 9) (v := ?_) (get_of_drop rfl) (by kernel_rfl) (by kernel_rfl) (by kernel_rfl) (by kernel_rfl) (fun _ _ _ h => h) (Or.inl ⟨by rfl, ?_⟩) hHeld ?_
    rotate_left
    · (intro w hSw; (try dsimp only at hSw); go_simp <;> with_reducible rfl)
    try simp only [Act.put, List.setIfInBounds_toArray, List.set_cons_zero, List.set_cons_succ]
    -- 10: t17 := load 3 t16 : 3   [if ⟨3, false⟩]
    refine wpB_take (i := 10) (v := ?_) (get_of_drop rfl) (by kernel_rfl) (by kernel_rfl) (by kernel_rfl) (by kernel_rfl) (fun _ _ _ h => h) (Or.inl ⟨by rfl, ?_⟩) hHeld ?_
    rotate_left
    · (intro w hSw; (try dsimp only at hSw); go_simp <;> with_reducible rfl)
    try simp only [Act.put, List.setIfInBounds_toArray, List.set_cons_zero, List.set_cons_succ]
    -- 11: t18 := binOp BinOp.neq 3 t12 t17 3 : 4   [if ⟨3, false⟩]
    refine wpB_take (i := 11) (v := ?_) (get_of_drop rfl) (by kernel_rfl) (by kernel_rfl) (by kernel_rfl) (by kernel_rfl) (fun _ _ _ h => h) (Or.inl ⟨by rfl, ?_⟩) hHeld ?_
    rotate_left
    · (intro w hSw; (try dsimp only at hSw); go_simp <;> with_reducible rfl)
    try simp only [Act.put, List.setIfInBounds_toArray, List.set_cons_zero, List.set_cons_succ]
    -- 12: t19 := pick t10 #true t18 : 4
    refine wpB_take (i := 12) (v := ?_) (get_of_drop rfl) (by kernel_rfl) (by kernel_rfl) (by kernel_rfl) (by kernel_rfl) (fun _ _ _ h => h) (Or.inl ⟨by rfl, ?_⟩) hHeld ?_
    rotate_left
    · (intro w hSw; (try dsimp only at hSw); go_simp <;> with_reducible rfl)
    try simp only [Act.put, List.setIfInBounds_toArray, List.set_cons_zero, List.set_cons_succ]
    -- 13: t20 := move t19 : 4
    refine wpB_take (i := 13) (v := ?_) (get_of_drop rfl) (by kernel_rfl) (by kernel_rfl) (by kernel_rfl) (by kernel_rfl) (fun _ _ _ h => h) (Or.inl ⟨by rfl, ?_⟩) hHeld ?_
    rotate_left
    · (intro w hSw; (try dsimp only at hSw); go_simp <;> with_reducible rfl)
    try simp only [Act.put, List.setIfInBounds_toArray, List.set_cons_zero, List.set_cons_succ]
    -- 14: t21 := fieldAddr 41 t3 2 : 0   [if ⟨13, false⟩]
    refine wpB_take (i := 14) (v := ?_) (get_of_drop rfl) (by kernel_rfl) (by kernel_rfl) (by kernel_rfl) (by kernel_rfl) (fun _ _ _ h => h) (Or.inl ⟨by rfl, ?_⟩) hHeld ?_
    rotate_left
    · (intro w hSw; (try dsimp only at hSw); go_simp <;> with_reducible rfl)
    try simp only [Act.put, List.setIfInBounds_toArray, List.set_cons_zero, List.set_cons_succ]
    -- 15: t22 := load 3 t21 : 3   [if ⟨13, false⟩]
    refine wpB_take (i := 15) (v := ?_) (get_of_drop rfl) (by kernel_rfl) (by kernel_rfl) (by kernel_rfl) (by kernel_rfl) (fun _ _ _ h => h) (Or.inl ⟨by rfl, ?_⟩) hHeld ?_
    rotate_left
    · (intro w hSw; (try dsimp only at hSw); go_simp <;> with_reducible rfl)
    try simp only [Act.put, List.setIfInBounds_toArray, List.set_cons_zero, List.set_cons_succ]
    -- 16: t23 := move t0 : 30   [if ⟨13, false⟩]
    refine wpB_take (i := 16) (v := ?_) (get_of_drop rfl) (by kernel_rfl) (by kernel_rfl) (by kernel_rfl) (by kernel_rfl) (fun _ _ _ h => h) (Or.inl ⟨by rfl, ?_⟩) hHeld ?_
    rotate_left
    · (intro w hSw; (try dsimp only at hSw); go_simp <;> with_reducible rfl)
    try simp only [Act.put, List.setIfInBounds_toArray, List.set_cons_zero, List.set_cons_succ]
    -- 17: t24 := nilCheck t23 : 0   [if ⟨13, false⟩]
    refine wpB_take (i := 17) (v := ?_) (get_of_drop rfl) (by kernel_rfl) (by kernel_rfl) (by kernel_rfl) (by kernel_rfl) (fun _ _ _ h => h) (Or.inl ⟨by rfl, ?_⟩) hHeld ?_
    rotate_left
    · (intro w hSw; (try dsimp only at hSw); go_simp <;> with_reducible rfl)
    try simp only [Act.put, List.setIfInBounds_toArray, List.set_cons_zero, List.set_cons_succ]
    -- 18: t25 := fieldAddr 100 t24 0 : 0   [if ⟨13, false⟩]
    refine wpB_take (i := 18) (v := ?_) (get_of_drop rfl) (by kernel_rfl) (by kernel_rfl) (by kernel_rfl) (by kernel_rfl) (fun _ _ _ h => h) (Or.inl ⟨by rfl, ?_⟩) hHeld ?_
    rotate_left
    · (intro w hSw; (try dsimp only at hSw); go_simp <;> with_reducible rfl)
    try simp only [Act.put, List.setIfInBounds_toArray, List.set_cons_zero, List.set_cons_succ]
    -- 19: t26 := fieldAddr 23 t25 1 : 0   [if ⟨13, false⟩]
    refine wpB_take (i := 19) (v := ?_) (get_of_drop rfl) (by kernel_rfl) (by kernel_rfl) (by kernel_rfl) (by kernel_rfl) (fun _ _ _ h => h) (Or.inl ⟨by rfl, ?_⟩) hHeld ?_
    rotate_left
    · (intro w hSw; (try dsimp only at hSw); go_simp <;> with_reducible rfl)
    try simp only [Act.put, List.setIfInBounds_toArray, List.set_cons_zero, List.set_cons_succ]
    -- 20: t27 := load 3 t26 : 3   [if ⟨13, false⟩]
    refine wpB_take (i := 20) (v := ?_) (get_of_drop rfl) (by kernel_rfl) (by kernel_rfl) (by kernel_rfl) (by kernel_rfl) (fun _ _ _ h => h) (Or.inl ⟨by rfl, ?_⟩) hHeld ?_
    rotate_left
    · (intro w hSw; (try dsimp only at hSw); go_simp <;> with_reducible rfl)
    try simp only [Act.put, List.setIfInBounds_toArray, List.set_cons_zero, List.set_cons_succ]
    -- 21: t28 := binOp BinOp.eql 3 t22 t27 3 : 4   [if ⟨13, false⟩]
    refine wpB_take (i := 21) (v := ?_) (get_of_drop rfl) (by kernel_rfl) (by kernel_rfl) (by kernel_rfl) (by kernel_rfl) (fun _ _ _ h => h) (Or.inl ⟨by rfl, ?_⟩) hHeld ?_
    rotate_left
    · (intro w hSw; (try dsimp only at hSw); go_simp <;> with_reducible rfl)
    try simp only [Act.put, List.setIfInBounds_toArray, List.set_cons_zero, List.set_cons_succ]
    -- 22: t29 := pick t20 #true t28 : 4
    refine wpB_take (i := 22) (v := ?_) (get_of_drop rfl) (by kernel_rfl) (by kernel_rfl) (by kernel_rfl) (by kernel_rfl) (fun _ _ _ h => h) (Or.inl ⟨by rfl, ?_⟩) hHeld ?_
    rotate_left
    · (intro w hSw; (try dsimp only at hSw); go_simp <;> with_reducible rfl)
    try simp only [Act.put, List.setIfInBounds_toArray, List.set_cons_zero, List.set_cons_succ]
    -- 23: t30 := move t29 : 4
    refine wpB_take (i := 23) (v := ?_) (get_of_drop rfl) (by kernel_rfl) (by kernel_rfl) (by kernel_rfl) (by kernel_rfl) (fun _ _ _ h => h) (Or.inl ⟨by rfl, ?_⟩) hHeld ?_
    rotate_left
    · (intro w hSw; (try dsimp only at hSw); go_simp <;> with_reducible rfl)
    try simp only [Act.put, List.setIfInBounds_toArray, List.set_cons_zero, List.set_cons_succ]
    -- 24: t31 := fieldAddr 41 t3 2 : 0   [if ⟨23, false⟩]
    refine wpB_take (i := 24) (v := ?_) (get_of_drop rfl) (by kernel_rfl) (by kernel_rfl) (by kernel_rfl) (by kernel_rfl) (fun _ _ _ h => h) (Or.inl ⟨by rfl, ?_⟩) hHeld ?_
    rotate_left
    · (intro w hSw; (try dsimp only at hSw); go_simp <;> with_reducible rfl)
    try simp only [Act.put, List.setIfInBounds_toArray, List.set_cons_zero, List.set_cons_succ]
    -- 25: t32 := load 3 t31 : 3   [if ⟨23, false⟩]
    refine wpB_take (i := 25) (v := ?_) (get_of_drop rfl) (by kernel_rfl) (by kernel_rfl) (by kernel_rfl) (by kernel_rfl) (fun _ _ _ h => h) (Or.inl ⟨by rfl, ?_⟩) hHeld ?_
    rotate_left
    · (intro w hSw; (try dsimp only at hSw); go_simp <;> with_reducible rfl)
    try simp only [Act.put, List.setIfInBounds_toArray, List.set_cons_zero, List.set_cons_succ]
    -- 26: t33 := move t0 : 30   [if ⟨23, false⟩]
    refine wpB_take (i := 26) (v := ?_) (get_of_drop rfl) (by kernel_rfl) (by kernel_rfl) (by kernel_rfl) (by kernel_rfl) (fun _ _ _ h => h) (Or.inl ⟨by rfl, ?_⟩) hHeld ?_
    rotate_left
    · (intro w hSw; (try dsimp only at hSw); go_simp <;> with_reducible rfl)
    try simp only [Act.put, List.setIfInBounds_toArray, List.set_cons_zero, List.set_cons_succ]
    -- 27: t34 := nilCheck t33 : 0   [if ⟨23, false⟩]
    refine wpB_take (i := 27) (v := ?_) (get_of_drop rfl) (by kernel_rfl) (by kernel_rfl) (by kernel_rfl) (by kernel_rfl) (fun _ _ _ h => h) (Or.inl ⟨by rfl, ?_⟩) hHeld ?_
    rotate_left
    · (intro w hSw; (try dsimp only at hSw); go_simp <;> with_reducible rfl)
    try simp only [Act.put, List.setIfInBounds_toArray, List.set_cons_zero, List.set_cons_succ]
    -- 28: t35 := fieldAddr 100 t34 0 : 0   [if ⟨23, false⟩]
    refine wpB_take (i := 28) (v := ?_) (get_of_drop rfl) (by kernel_rfl) (by kernel_rfl) (by kernel_rfl) (by kernel_rfl) (fun _ _ _ h => h) (Or.inl ⟨by rfl, ?_⟩) hHeld ?_
    rotate_left
    · (intro w hSw; (try dsimp only at hSw); go_simp <;> with_reducible rfl)
    try simp only [Act.put, List.setIfInBounds_toArray, List.set_cons_zero, List.set_cons_succ]
    -- 29: t36 := fieldAddr 23 t35 0 : 0   [if ⟨23, false⟩]
    refine wpB_take (i := 29) (v := ?_) (get_of_drop rfl) (by kernel_rfl) (by kernel_rfl) (by kernel_rfl) (by kernel_rfl) (fun _ _ _ h => h) (Or.inl ⟨by rfl, ?_⟩) hHeld ?_
    rotate_left
    · (intro w hSw; (try dsimp only at hSw); go_simp <;> with_reducible rfl)
    try simp only [Act.put, List.setIfInBounds_toArray, List.set_cons_zero, List.set_cons_succ]
    -- 30: t37 := load 3 t36 : 3   [if ⟨23, false⟩]
    refine wpB_take (i := 30) (v := ?_) (get_of_drop rfl) (by kernel_rfl) (by kernel_rfl) (by kernel_rfl) (by kernel_rfl) (fun _ _ _ h => h) (Or.inl ⟨by rfl, ?_⟩) hHeld ?_
    rotate_left
    · (intro w hSw; (try dsimp only at hSw); go_simp <;> with_reducible rfl)
    try simp only [Act.put, List.setIfInBounds_toArray, List.set_cons_zero, List.set_cons_succ]
    -- 31: t38 := binOp BinOp.geq 3 t32 t37 3 : 4   [if ⟨23, false⟩]
    refine wpB_take (i := 31) (v := ?_) (get_of_drop rfl) (by kernel_rfl) (by kernel_rfl) (by kernel_rfl) (by kernel_rfl) (fun _ _ _ h => h) (Or.inl ⟨by rfl, ?_⟩) hHeld ?_
    rotate_left
    · (intro w hSw; (try dsimp only at hSw); go_simp <;> with_reducible rfl)
    try simp only [Act.put, List.setIfInBounds_toArray, List.set_cons_zero, List.set_cons_succ]
    -- 32: t39 := pick t30 #true t38 : 4
    refine wpB_take (i := 32) (v := ?_) (get_of_drop rfl) (by kernel_rfl) (by kernel_rfl) (by kernel_rfl) (by kernel_rfl) (fun _ _ _ h => h) (Or.inl ⟨by rfl, ?_⟩) hHeld ?_
    rotate_left
    · (intro w hSw; (try dsimp only at hSw); go_simp <;> with_reducible rfl)
    try simp only [Act.put, List.setIfInBounds_toArray, List.set_cons_zero, List.set_cons_succ]
    refine wpB_done (by kernel_rfl) ?_ _
    clear hmr hd2 hs2
    go_wp2_with fail
    go_ret2
    have e1 : deliverR r m = (r, 10) := by unfold deliverR; rw [if_pos HNO.out]
    rw [e1]
    exact Stood.none_ HH.out HO.out (C1.out.trans hHeld (fun _ h _ => h)) rfl
  have hn2 : ¬ r.n ≤ m.src := by omega
  have HYES := hid (show ¬ meantR r m = false by rw [Bool.not_eq_false, meantR_iff]; exact ⟨HMR.out, HD.out, HS1.out, hn1⟩)
  have HS := hid (show 0 ≤ m.src ∧ m.src < r.n from ⟨(msgR_num HMR.out).2.2.2.1.1, hn1⟩)
  clear hn1
  refine wpB_start (fun wx : World => Chg (fun _ => False) w1 wx) (by kernel_rfl) ?_
  have hHeld : (fun wx : World => Chg (fun _ => False) w1 wx) _ := (Chg.refl (fun _ => False) w1).drew
  -- 0: t7 := load 41 t3 : 41
  refine wpB_take (i := 0) (v := ?_) (get_of_drop rfl) (by kernel_rfl) (by kernel_rfl) (by kernel_rfl) (by kernel_rfl) (fun _ _ _ h => h) (Or.inl ⟨by rfl, ?_⟩) hHeld ?_
  rotate_left
  · (intro w hSw; (try dsimp only at hSw); go_simp <;> with_reducible rfl)
  try simp only [Act.put, List.setIfInBounds_toArray, List.set_cons_zero, List.set_cons_succ]
  -- 1: t8 := CALL fn32(t7) : 4
  refine wpB_act (i := 1) (by kernel_rfl) (get_of_drop rfl) (fun K hK => ?_)
  go_simp
  refine (msgright_any (HM.out.chg hHeld (fun _ _ h => h))).mono ?_
  rintro e' wy ⟨rfl, hwy⟩
  have HW := hid (show Chg (fun _ => False) w1 wy from hHeld.trans hwy (fun _ h _ => h))
  refine hK.out _ _ ?_ (fun hHeld2 => ?_)
  · first | assumption | exact HW.out
  clear hHeld hK K
  have hHeld := hHeld2
  clear hHeld2
  try simp only [Act.put, List.setIfInBounds_toArray, List.set_cons_zero, List.set_cons_succ]
  -- 2: t9 := unOp UnOp.not 4 t8 : 4
  refine wpB_take (i := 2) (v := ?_) (get_of_drop rfl) (by kernel_rfl) (by kernel_rfl) (by kernel_rfl) (by kernel_rfl) (fun _ _ _ h => h) (Or.inl ⟨by rfl, ?_⟩) hHeld ?_
  rotate_left
  · (intro w hSw; (try dsimp only at hSw); go_simp <;> with_reducible rfl)
  try simp only [Act.put, List.setIfInBounds_toArray, List.set_cons_zero, List.set_cons_succ]
  -- 3: t10 := move t9 : 4
  refine wpB_take (i := 3) (v := ?_) (get_of_drop rfl) (by kernel_rfl) (by kernel_rfl) (by kernel_rfl) (by kernel_rfl) (fun _ _ _ h => h) (Or.inl ⟨by rfl, ?_⟩) hHeld ?_
  rotate_left
  · (intro w hSw; (try dsimp only at hSw); go_simp <;> with_reducible rfl)
  try simp only [Act.put, List.setIfInBounds_toArray, List.set_cons_zero, List.set_cons_succ]
  -- 4: t11 := fieldAddr 41 t3 3 : 0   [if ⟨3, false⟩]
  refine wpB_take (i := 4) (v := ?_) (get_of_drop rfl) (by kernel_rfl) (by kernel_rfl) (by kernel_rfl) (by kernel_rfl) (fun _ _ _ h => h) (Or.inl ⟨by rfl, ?_⟩) hHeld ?_
  rotate_left
  · (intro w hSw; (try dsimp only at hSw); go_simp <;> with_reducible rfl)
  try simp only [Act.put, List.setIfInBounds_toArray, List.set_cons_zero, List.set_cons_succ]
  -- 5: t12 := load 3 t11 : 3   [if ⟨3, false⟩]
  refine wpB_take (i := 5) (v := ?_) (get_of_drop rfl) (by kernel_rfl) (by kernel_rfl) (by kernel_rfl) (by kernel_rfl) (fun _ _ _ h => h) (Or.inl ⟨by rfl, ?_⟩) hHeld ?_
  rotate_left
  · (intro w hSw; (try dsimp only at hSw); go_simp <;> with_reducible rfl)
  try simp only [Act.put, List.setIfInBounds_toArray, List.set_cons_zero, List.set_cons_succ]
  -- 6: t13 := move t0 : 30   [if ⟨3, false⟩]
  refine wpB_take (i := 6) (v := ?_) (get_of_drop rfl) (by kernel_rfl) (by kernel_rfl) (by kernel_rfl) (by kernel_rfl) (fun _ _ _ h => h) (Or.inl ⟨by rfl, ?_⟩) hHeld ?_
  rotate_left
  · (intro w hSw; (try dsimp only at hSw); go_simp <;> with_reducible rfl)
  try simp only [Act.put, List.setIfInBounds_toArray, List.set_cons_zero, List.set_cons_succ]
  -- 7: t14 := nilCheck t13 : 0   [if ⟨3, false⟩]
  refine wpB_take (i := 7) (v := ?_) (get_of_drop rfl) (by kernel_rfl) (by kernel_rfl) (by kernel_rfl) (by kernel_rfl) (fun _ _ _ h => h) (Or.inl ⟨by rfl, ?_⟩) hHeld ?_
  rotate_left
  · (intro w hSw; (try dsimp only at hSw); go_simp <;> with_reducible rfl)
  try simp only [Act.put, List.setIfInBounds_toArray, List.set_cons_zero, List.set_cons_succ]
  -- 8: t15 := fieldAddr 100 t14 0 : 0   [if ⟨3, false⟩]
  refine wpB_take (i := 8) (v := ?_) (get_of_drop rfl) (by kernel_rfl) (by kernel_rfl) (by kernel_rfl) (by kernel_rfl) (fun _ _ _ h => h) (Or.inl ⟨by rfl, ?_⟩) hHeld ?_
  rotate_left
  · (intro w hSw; (try dsimp only at hSw); go_simp <;> with_reducible rfl)
  try simp only [Act.put, List.setIfInBounds_toArray, List.set_cons_zero, List.set_cons_succ]
  -- 9: t16 := fieldAddr 23 t15 1 : 0   [if ⟨3, false⟩]
  refine wpB_take (i := 9) (v := ?_) (get_of_drop rfl) (by kernel_rfl) (by kernel_rfl) (by kernel_rfl) (by kernel_rfl) (fun _ _ _ h => h) (Or.inl ⟨by rfl, ?_⟩) hHeld ?_
  rotate_left
  · (intro w hSw; (try dsimp only at hSw); go_simp <;> with_reducible rfl)
  try simp only [Act.put, List.setIfInBounds_toArray, List.set_cons_zero, List.set_cons_succ]
  -- 10: t17 := load 3 t16 : 3   [if ⟨3, false⟩]
  refine wpB_take (i := 10) (v := ?_) (get_of_drop rfl) (by kernel_rfl) (by kernel_rfl) (by kernel_rfl) (by kernel_rfl) (fun _ _ _ h => h) (Or.inl ⟨by rfl, ?_⟩) hHeld ?_
  rotate_left
  · (intro w hSw; (try dsimp only at hSw); go_simp <;> with_reducible rfl)
  try simp only [Act.put, List.setIfInBounds_toArray, List.set_cons_zero, List.set_cons_succ]
  -- 11: t18 := binOp BinOp.neq 3 t12 t17 3 : 4   [if ⟨3, false⟩]
  refine wpB_take (i := 11) (v := ?_) (get_of_drop rfl) (by kernel_rfl) (by kernel_rfl) (by kernel_rfl) (by kernel_rfl) (fun _ _ _ h => h) (Or.inl ⟨by rfl, ?_⟩) hHeld ?_
  rotate_left
  · (intro w hSw; (try dsimp only at hSw); go_simp <;> with_reducible rfl)
  try simp only [Act.put, List.setIfInBounds_toArray, List.set_cons_zero, List.set_cons_succ]
  -- 12: t19 := pick t10 #true t18 : 4
  refine wpB_take (i := 12) (v := ?_) (get_of_drop rfl) (by kernel_rfl) (by kernel_rfl) (by kernel_rfl) (by kernel_rfl) (fun _ _ _ h => h) (Or.inl ⟨by rfl, ?_⟩) hHeld ?_
  rotate_left
  · (intro w hSw; (try dsimp only at hSw); go_simp <;> with_reducible rfl)
  try simp only [Act.put, List.setIfInBounds_toArray, List.set_cons_zero, List.set_cons_succ]
  -- 13: t20 := move t19 : 4
  refine wpB_take (i := 13) (v := ?_) (get_of_drop rfl) (by kernel_rfl) (by kernel_rfl) (by kernel_rfl) (by kernel_rfl) (fun _ _ _ h => h) (Or.inl ⟨by rfl, ?_⟩) hHeld ?_
  rotate_left
  · (intro w hSw; (try dsimp only at hSw); go_simp <;> with_reducible rfl)
  try simp only [Act.put, List.setIfInBounds_toArray, List.set_cons_zero, List.set_cons_succ]
  -- 14: t21 := fieldAddr 41 t3 2 : 0   [if ⟨13, false⟩]
  refine wpB_take (i := 14) (v := ?_) (get_of_drop rfl) (by kernel_rfl) (by kernel_rfl) (by kernel_rfl) (by kernel_rfl) (fun _ _ _ h => h) (Or.inl ⟨by rfl, ?_⟩) hHeld ?_
  rotate_left
  · (intro w hSw; (try dsimp only at hSw); go_simp <;> with_reducible rfl)
  try simp only [Act.put, List.setIfInBounds_toArray, List.set_cons_zero, List.set_cons_succ]
  -- 15: t22 := load 3 t21 : 3   [if ⟨13, false⟩]
  refine wpB_take (i := 15) (v := ?_) (get_of_drop rfl) (by kernel_rfl) (by kernel_rfl) (by kernel_rfl) (by kernel_rfl) (fun _ _ _ h => h) (Or.inl ⟨by rfl, ?_⟩) hHeld ?_
  rotate_left
  · (intro w hSw; (try dsimp only at hSw); go_simp <;> with_reducible rfl)
  try simp only [Act.put, List.setIfInBounds_toArray, List.set_cons_zero, List.set_cons_succ]
  -- 16: t23 := move t0 : 30   [if ⟨13, false⟩]
  refine wpB_take (i := 16) (v := ?_) (get_of_drop rfl) (by kernel_rfl) (by kernel_rfl) (by kernel_rfl) (by kernel_rfl) (fun _ _ _ h => h) (Or.inl ⟨by rfl, ?_⟩) hHeld ?_
  rotate_left
  · (intro w hSw; (try dsimp only at hSw); go_simp <;> with_reducible rfl)
  try simp only [Act.put, List.setIfInBounds_toArray, List.set_cons_zero, List.set_cons_succ]
  -- 17: t24 := nilCheck t23 : 0   [if ⟨13, false⟩]
  refine wpB_take (i := 17) (v := ?_) (get_of_drop rfl) (by kernel_rfl) (by kernel_rfl) (by kernel_rfl) (by kernel_rfl) (fun _ _ _ h => h) (Or.inl ⟨by rfl, ?_⟩) hHeld ?_
  rotate_left
  · (intro w hSw; (try dsimp only at hSw); go_simp <;> with_reducible rfl)
  try simp only [Act.put, List.setIfInBounds_toArray, List.set_cons_zero, List.set_cons_succ]
  -- 18: t25 := fieldAddr 100 t24 0 : 0   [if ⟨13, false⟩]
  refine wpB_take (i := 18) (v := ?_) (get_of_drop rfl) (by kernel_rfl) (by kernel_rfl) (by kernel_rfl) (by kernel_rfl) (fun _ _ _ h => h) (Or.inl ⟨by rfl, ?_⟩) hHeld ?_
  rotate_left
  · (intro w hSw; (try dsimp only at hSw); go_simp <;> with_reducible rfl)
  try simp only [Act.put, List.setIfInBounds_toArray, List.set_cons_zero, List.set_cons_succ]
  -- 19: t26 := fieldAddr 23 t25 1 : 0   [if ⟨13, false⟩]
  refine wpB_take (i := 19) (v := ?_) (get_of_drop rfl) (by kernel_rfl) (by kernel_rfl) (by kernel_rfl) (by kernel_rfl) (fun _ _ _ h => h) (Or.inl ⟨by rfl, ?_⟩) hHeld ?_
  rotate_left
  · (intro w hSw; (try dsimp only at hSw); go_simp <;> with_reducible rfl)
  try simp only [Act.put, List.setIfInBounds_toArray, List.set_cons_zero, List.set_cons_succ]
  -- 20: t27 := load 3 t26 : 3   [if ⟨13, false⟩]
  refine wpB_take (i := 20) (v := ?_) (get_of_drop rfl) (by kernel_rfl) (by kernel_rfl) (by kernel_rfl) (by kernel_rfl) (fun _ _ _ h => h) (Or.inl ⟨by rfl, ?_⟩) hHeld ?_
  rotate_left
  · (intro w hSw; (try dsimp only at hSw); go_simp <;> with_reducible rfl)
  try simp only [Act.put, List.setIfInBounds_toArray, List.set_cons_zero, List.set_cons_succ]
  -- 21: t28 := binOp BinOp.eql 3 t22 t27 3 : 4   [if ⟨13, false⟩]
  refine wpB_take (i := 21) (v := ?_) (get_of_drop rfl) (by kernel_rfl) (by kernel_rfl) (by kernel_rfl) (by kernel_rfl) (fun _ _ _ h => h) (Or.inl ⟨by rfl, ?_⟩) hHeld ?_
  rotate_left
  · (intro w hSw; (try dsimp only at hSw); go_simp <;> with_reducible rfl)
  try simp only [Act.put, List.setIfInBounds_toArray, List.set_cons_zero, List.set_cons_succ]
  -- 22: t29 := pick t20 #true t28 : 4
  refine wpB_take (i := 22) (v := ?_) (get_of_drop rfl) (by kernel_rfl) (by kernel_rfl) (by kernel_rfl) (by kernel_rfl) (fun _ _ _ h => h) (Or.inl ⟨by rfl, ?_⟩) hHeld ?_
  rotate_left
  · (intro w hSw; (try dsimp only at hSw); go_simp <;> with_reducible rfl)
  try simp only [Act.put, List.setIfInBounds_toArray, List.set_cons_zero, List.set_cons_succ]
  -- 23: t30 := move t29 : 4
  refine wpB_take (i := 23) (v := ?_) (get_of_drop rfl) (by kernel_rfl) (by kernel_rfl) (by kernel_rfl) (by kernel_rfl) (fun _ _ _ h => h) (Or.inl ⟨by rfl, ?_⟩) hHeld ?_
  rotate_left
  · (intro w hSw; (try dsimp only at hSw); go_simp <;> with_reducible rfl)
  try simp only [Act.put, List.setIfInBounds_toArray, List.set_cons_zero, List.set_cons_succ]
  -- 24: t31 := fieldAddr 41 t3 2 : 0   [if ⟨23, false⟩]
  refine wpB_take (i := 24) (v := ?_) (get_of_drop rfl) (by kernel_rfl) (by kernel_rfl) (by kernel_rfl) (by kernel_rfl) (fun _ _ _ h => h) (Or.inl ⟨by rfl, ?_⟩) hHeld ?_
  rotate_left
  · (intro w hSw; (try dsimp only at hSw); go_simp <;> with_reducible rfl)
  try simp only [Act.put, List.setIfInBounds_toArray, List.set_cons_zero, List.set_cons_succ]
  -- 25: t32 := load 3 t31 : 3   [if ⟨23, false⟩]
  refine wpB_take (i := 25) (v := ?_) (get_of_drop rfl) (by kernel_rfl) (by kernel_rfl) (by kernel_rfl) (by kernel_rfl) (fun _ _ _ h => h) (Or.inl ⟨by rfl, ?_⟩) hHeld ?_
  rotate_left
  · (intro w hSw; (try dsimp only at hSw); go_simp <;> with_reducible rfl)
  try simp only [Act.put, List.setIfInBounds_toArray, List.set_cons_zero, List.set_cons_succ]
  -- 26: t33 := move t0 : 30   [if ⟨23, false⟩]
  refine wpB_take (i := 26) (v := ?_) (get_of_drop rfl) (by kernel_rfl) (by kernel_rfl) (by kernel_rfl) (by kernel_rfl) (fun _ _ _ h => h) (Or.inl ⟨by rfl, ?_⟩) hHeld ?_
  rotate_left
  · (intro w hSw; (try dsimp only at hSw); go_simp <;> with_reducible rfl)
  try simp only [Act.put, List.setIfInBounds_toArray, List.set_cons_zero, List.set_cons_succ]
  -- 27: t34 := nilCheck t33 : 0   [if ⟨23, false⟩]
  refine wpB_take (i := 27) (v := ?_) (get_of_drop rfl) (by kernel_rfl) (by kernel_rfl) (by kernel_rfl) (by kernel_rfl) (fun _ _ _ h => h) (Or.inl ⟨by rfl, ?_⟩) hHeld ?_
  rotate_left
  · (intro w hSw; (try dsimp only at hSw); go_simp <;> with_reducible rfl)
  try simp only [Act.put, List.setIfInBounds_toArray, List.set_cons_zero, List.set_cons_succ]
  -- 28: t35 := fieldAddr 100 t34 0 : 0   [if ⟨23, false⟩]
  refine wpB_take (i := 28) (v := ?_) (get_of_drop rfl) (by kernel_rfl) (by kernel_rfl) (by kernel_rfl) (by kernel_rfl) (fun _ _ _ h => h) (Or.inl ⟨by rfl, ?_⟩) hHeld ?_
  rotate_left
  · (intro w hSw; (try dsimp only at hSw); go_simp <;> with_reducible rfl)
  try simp only [Act.put, List.setIfInBounds_toArray, List.set_cons_zero, List.set_cons_succ]
  -- 29: t36 := fieldAddr 23 t35 0 : 0   [if ⟨23, false⟩]
  refine wpB_take (i := 29) (v := ?_) (get_of_drop rfl) (by kernel_rfl) (by kernel_rfl) (by kernel_rfl) (by kernel_rfl) (fun _ _ _ h => h) (Or.inl ⟨by rfl, ?_⟩) hHeld ?_
  rotate_left
  · (intro w hSw; (try dsimp only at hSw); go_simp <;> with_reducible rfl)
  try simp only [Act.put, List.setIfInBounds_toArray, List.set_cons_zero, List.set_cons_succ]
  -- 30: t37 := load 3 t36 : 3   [if ⟨23, false⟩]
  refine wpB_take (i := 30) (v := ?_) (get_of_drop rfl) (by kernel_rfl) (by kernel_rfl) (by kernel_rfl) (by kernel_rfl) (fun _ _ _ h => h) (Or.inl ⟨by rfl, ?_⟩) hHeld ?_
  rotate_left
  · (intro w hSw; (try dsimp only at hSw); go_simp <;> with_reducible rfl)
  try simp only [Act.put, List.setIfInBounds_toArray, List.set_cons_zero, List.set_cons_succ]
  -- 31: t38 := binOp BinOp.geq 3 t32 t37 3 : 4   [if ⟨23, false⟩]
  refine wpB_take (i := 31) (v := ?_) (get_of_drop rfl) (by kernel_rfl) (by kernel_rfl) (by kernel_rfl) (by kernel_rfl) (fun _ _ _ h => h) (Or.inl ⟨by rfl, ?_⟩) hHeld ?_
  rotate_left
  · (intro w hSw; (try dsimp only at hSw); go_simp <;> with_reducible rfl)
  try simp only [Act.put, List.setIfInBounds_toArray, List.set_cons_zero, List.set_cons_succ]
  -- 32: t39 := pick t30 #true t38 : 4
  refine wpB_take (i := 32) (v := ?_) (get_of_drop rfl) (by kernel_rfl) (by kernel_rfl) (by kernel_rfl) (by kernel_rfl) (fun _ _ _ h => h) (Or.inl ⟨by rfl, ?_⟩) hHeld ?_
  rotate_left
  · (intro w hSw; (try dsimp only at hSw); go_simp <;> with_reducible rfl)
  try simp only [Act.put, List.setIfInBounds_toArray, List.set_cons_zero, List.set_cons_succ]
  refine wpB_done (by kernel_rfl) ?_ _
  clear hmr hd2 hs2 hn2 X_0 X_1 X_2 X_3 X_4 X_5 X_6 X_7 U_0 U_1
  have K := hid (C1.out.trans hHeld (fun _ h _ => h))
  replace H := hid (HH.out.far K.out)
  replace BX := hid (hHeld.blk BX.out (fun h => h))
  replace HM := hid (HM.out.chg hHeld (fun _ _ h => h))
  replace BP := hid H.out.blk
  clear hHeld HW
  go_wp2_with fail
  have X_1 : ∀ wx, Chg (fun _ => False) wy wx → wx.cell? ⟨b, 1, none⟩ = some (.int .i64 m.view) := fun wx hx => (cellAt (hx.blk BX.out (fun h => h)) 1).trans rfl
  have U_3 : ∀ wx, Chg (fun _ => False) wy wx → wx.cell? ⟨p, 3, none⟩ = some (.int .i64 r.s.view) := fun wx hx => (cellAt (hx.blk BP.out (fun h => h)) 3).trans rfl
  refine wpB_start (fun wx : World => Chg (fun _ => False) wy wx) (by kernel_rfl) ?_
  have hHeld : (fun wx : World => Chg (fun _ => False) wy wx) _ := (Chg.refl (fun _ => False) wy).drew
  -- 0: t40 := fieldAddr 41 t3 1 : 0
  refine wpB_take (i := 0) (v := ?_) (get_of_drop rfl) (by kernel_rfl) (by kernel_rfl) (by kernel_rfl) (by kernel_rfl) (fun _ _ _ h => h) (Or.inl ⟨by rfl, ?_⟩) hHeld ?_
  rotate_left
  · (intro w hSw; (try dsimp only at hSw); go_simp <;> with_reducible rfl)
  try simp only [Act.put, List.setIfInBounds_toArray, List.set_cons_zero, List.set_cons_succ]
  -- 1: t41 := load 3 t40 : 3
  refine wpB_take (i := 1) (v := ?_) (get_of_drop rfl) (by kernel_rfl) (by kernel_rfl) (by kernel_rfl) (by kernel_rfl) (fun _ _ _ h => h) (Or.inl ⟨by rfl, ?_⟩) hHeld ?_
  rotate_left
  · (intro w hSw; (try dsimp only at hSw); go_simp <;> with_reducible rfl)
  try simp only [Act.put, List.setIfInBounds_toArray, List.set_cons_zero, List.set_cons_succ]
  -- 2: t42 := move t0 : 30
  refine wpB_take (i := 2) (v := ?_) (get_of_drop rfl) (by kernel_rfl) (by kernel_rfl) (by kernel_rfl) (by kernel_rfl) (fun _ _ _ h => h) (Or.inl ⟨by rfl, ?_⟩) hHeld ?_
  rotate_left
  · (intro w hSw; (try dsimp only at hSw); go_simp <;> with_reducible rfl)
  try simp only [Act.put, List.setIfInBounds_toArray, List.set_cons_zero, List.set_cons_succ]
  -- 3: t43 := nilCheck t42 : 0
  refine wpB_take (i := 3) (v := ?_) (get_of_drop rfl) (by kernel_rfl) (by kernel_rfl) (by kernel_rfl) (by kernel_rfl) (fun _ _ _ h => h) (Or.inl ⟨by rfl, ?_⟩) hHeld ?_
  rotate_left
  · (intro w hSw; (try dsimp only at hSw); go_simp <;> with_reducible rfl)
  try simp only [Act.put, List.setIfInBounds_toArray, List.set_cons_zero, List.set_cons_succ]
  -- 4: t44 := fieldAddr 100 t43 1 : 0
  refine wpB_take (i := 4) (v := ?_) (get_of_drop rfl) (by kernel_rfl) (by kernel_rfl) (by kernel_rfl) (by kernel_rfl) (fun _ _ _ h => h) (Or.inl ⟨by rfl, ?_⟩) hHeld ?_
  rotate_left
  · (intro w hSw; (try dsimp only at hSw); go_simp <;> with_reducible rfl)
  try simp only [Act.put, List.setIfInBounds_toArray, List.set_cons_zero, List.set_cons_succ]
  -- 5: t45 := fieldAddr 26 t44 0 : 0
  refine wpB_take (i := 5) (v := ?_) (get_of_drop rfl) (by kernel_rfl) (by kernel_rfl) (by kernel_rfl) (by kernel_rfl) (fun _ _ _ h => h) (Or.inl ⟨by rfl, ?_⟩) hHeld ?_
  rotate_left
  · (intro w hSw; (try dsimp only at hSw); go_simp <;> with_reducible rfl)
  try simp only [Act.put, List.setIfInBounds_toArray, List.set_cons_zero, List.set_cons_succ]
  -- 6: t46 := load 3 t45 : 3
  refine wpB_take (i := 6) (v := ?_) (get_of_drop rfl) (by kernel_rfl) (by kernel_rfl) (by kernel_rfl) (by kernel_rfl) (fun _ _ _ h => h) (Or.inl ⟨by rfl, ?_⟩) hHeld ?_
  rotate_left
  · (intro w hSw; (try dsimp only at hSw); go_simp <;> with_reducible rfl)
  try simp only [Act.put, List.setIfInBounds_toArray, List.set_cons_zero, List.set_cons_succ]
  -- 7: t47 := binOp BinOp.lss 3 t41 t46 3 : 4
  refine wpB_take (i := 7) (v := ?_) (get_of_drop rfl) (by kernel_rfl) (by kernel_rfl) (by kernel_rfl) (by kernel_rfl) (fun _ _ _ h => h) (Or.inl ⟨by rfl, ?_⟩) hHeld ?_
  rotate_left
  · (intro w hSw; (try dsimp only at hSw); go_simp <;> with_reducible rfl)
  try simp only [Act.put, List.setIfInBounds_toArray, List.set_cons_zero, List.set_cons_succ]
  refine wpB_done (by kernel_rfl) ?_ _
  obtain ⟨wb, hdn⟩ : ∃ q_, q_ = wy.drew := ⟨_, rfl⟩
  rw [← hdn]
  replace K := hid (show Chg (fun _ => False) w wb by rw [hdn]; exact K.out.drew)
  replace H := hid (show Rep w wb p b1 b2 b3 X r A n c (.slice none 0 0) by rw [hdn]; exact H.out.far ((Chg.refl (fun _ => False) wy).drew))
  replace BX := hid (show wb.heap[b]? = some (.cells #[.int .i64 m.kind, .int .i64 m.view, .int .i64 m.src, .int .i64 m.dst, .int .i64 m.op, .int .i64 m.commit, .int .i64 m.normal, .slice B k d] 41 (0, 0)) by rw [hdn]; exact blk_drew BX.out)
  replace HM := hid (show Ty.At entryK wb (fun j => R j ∧ j < w.heap.size) B k d m.log by rw [hdn]; exact HM.out.chg ((Chg.refl (fun _ => False) wy).drew) (fun _ _ h => h))
  replace BP := hid H.out.blk
  clear hdn hHeld
  clear X_1 U_3
  by_cases hv1 : m.view < r.s.view
  case pos =>
    have HV1 := hid hv1
    go_wp2_with fail
    go_ret2
    have e1 : deliverR r m = (r, 0) := by unfold deliverR; rw [if_neg HYES.out, if_pos HV1.out]
    rw [e1]
    exact Stood.none_ HH.out HO.out K.out rfl
  have HVL := hid (show r.s.view ≤ m.view by omega)
  have HDL := hid (show deliverR r m = (heardR r m, 0) by unfold deliverR; rw [if_neg HYES.out, if_neg hv1])
  go_wp2_with fail
  clear hv1
  have X_1 : ∀ wx, Chg (fun _ => False) wb wx → wx.cell? ⟨b, 1, none⟩ = some (.int .i64 m.view) := fun wx hx => (cellAt (hx.blk BX.out (fun h => h)) 1).trans rfl
  have U_3 : ∀ wx, Chg (fun _ => False) wb wx → wx.cell? ⟨p, 3, none⟩ = some (.int .i64 r.s.view) := fun wx hx => (cellAt (hx.blk BP.out (fun h => h)) 3).trans rfl
  have HNWF := hid (show newerR r m = (decide (r.s.view < m.view) || r.ch) from rfl)
  go_upto_region 5 with fail
  go_cut [6] (fun v6 wx => v6 = .bool (newerR r m) ∧ wx = wb.drew)
  case first =>
    by_cases hv2 : r.s.view < m.view
    · have hv3 : newerR r m = true := by rw [HNWF.out, decide_eq_true hv2]; rfl
      refine wpB_start (fun wx : World => Chg (fun _ => False) wb wx) (by kernel_rfl) ?_
      have hHeld : (fun wx : World => Chg (fun _ => False) wb wx) _ := (Chg.refl (fun _ => False) wb).drew
      -- 0: t48 := fieldAddr 41 t3 1 : 0
      refine wpB_take (i := 0) (v := ?_) (get_of_drop rfl) (by kernel_rfl) (by kernel_rfl) (by kernel_rfl) (by kernel_rfl) (fun _ _ _ h => h) (Or.inl ⟨by rfl, ?_⟩) hHeld ?_
      rotate_left
      · (intro w hSw; (try dsimp only at hSw); go_simp <;> with_reducible rfl)
      try simp only [Act.put, List.setIfInBounds_toArray, List.set_cons_zero, List.set_cons_succ]
      -- 1: t49 := load 3 t48 : 3
      refine wpB_take (i := 1) (v := ?_) (get_of_drop rfl) (by kernel_rfl) (by kernel_rfl) (by kernel_rfl) (by kernel_rfl) (fun _ _ _ h => h) (Or.inl ⟨by rfl, ?_⟩) hHeld ?_
      rotate_left
      · (intro w hSw; (try dsimp only at hSw); go_simp <;> with_reducible rfl)
      try simp only [Act.put, List.setIfInBounds_toArray, List.set_cons_zero, List.set_cons_succ]
      -- 2: t50 := move t0 : 30
      refine wpB_take (i := 2) (v := ?_) (get_of_drop rfl) (by kernel_rfl) (by kernel_rfl) (by kernel_rfl) (by kernel_rfl) (fun _ _ _ h => h) (Or.inl ⟨by rfl, ?_⟩) hHeld ?_
      rotate_left
      · (intro w hSw; (try dsimp only at hSw); go_simp <;> with_reducible rfl)
      try simp only [Act.put, List.setIfInBounds_toArray, List.set_cons_zero, List.set_cons_succ]
      -- 3: t51 := nilCheck t50 : 0
      refine wpB_take (i := 3) (v := ?_) (get_of_drop rfl) (by kernel_rfl) (by kernel_rfl) (by kernel_rfl) (by kernel_rfl) (fun _ _ _ h => h) (Or.inl ⟨by rfl, ?_⟩) hHeld ?_
      rotate_left
      · (intro w hSw; (try dsimp only at hSw); go_simp <;> with_reducible rfl)
      try simp only [Act.put, List.setIfInBounds_toArray, List.set_cons_zero, List.set_cons_succ]
      -- 4: t52 := fieldAddr 100 t51 1 : 0
      refine wpB_take (i := 4) (v := ?_) (get_of_drop rfl) (by kernel_rfl) (by kernel_rfl) (by kernel_rfl) (by kernel_rfl) (fun _ _ _ h => h) (Or.inl ⟨by rfl, ?_⟩) hHeld ?_
      rotate_left
      · (intro w hSw; (try dsimp only at hSw); go_simp <;> with_reducible rfl)
      try simp only [Act.put, List.setIfInBounds_toArray, List.set_cons_zero, List.set_cons_succ]
      -- 5: t53 := fieldAddr 26 t52 0 : 0
      refine wpB_take (i := 5) (v := ?_) (get_of_drop rfl) (by kernel_rfl) (by kernel_rfl) (by kernel_rfl) (by kernel_rfl) (fun _ _ _ h => h) (Or.inl ⟨by rfl, ?_⟩) hHeld ?_
      rotate_left
      · (intro w hSw; (try dsimp only at hSw); go_simp <;> with_reducible rfl)
      try simp only [Act.put, List.setIfInBounds_toArray, List.set_cons_zero, List.set_cons_succ]
      -- 6: t54 := load 3 t53 : 3
      refine wpB_take (i := 6) (v := ?_) (get_of_drop rfl) (by kernel_rfl) (by kernel_rfl) (by kernel_rfl) (by kernel_rfl) (fun _ _ _ h => h) (Or.inl ⟨by rfl, ?_⟩) hHeld ?_
      rotate_left
      · (intro w hSw; (try dsimp only at hSw); go_simp <;> with_reducible rfl)
      try simp only [Act.put, List.setIfInBounds_toArray, List.set_cons_zero, List.set_cons_succ]
      -- 7: t55 := binOp BinOp.gtr 3 t49 t54 3 : 4
      refine wpB_take (i := 7) (v := ?_) (get_of_drop rfl) (by kernel_rfl) (by kernel_rfl) (by kernel_rfl) (by kernel_rfl) (fun _ _ _ h => h) (Or.inl ⟨by rfl, ?_⟩) hHeld ?_
      rotate_left
      · (intro w hSw; (try dsimp only at hSw); go_simp <;> with_reducible rfl)
      try simp only [Act.put, List.setIfInBounds_toArray, List.set_cons_zero, List.set_cons_succ]
      -- 8: t56 := move t55 : 4
      refine wpB_take (i := 8) (v := ?_) (get_of_drop rfl) (by kernel_rfl) (by kernel_rfl) (by kernel_rfl) (by kernel_rfl) (fun _ _ _ h => h) (Or.inl ⟨by rfl, ?_⟩) hHeld ?_
      rotate_left
      · (intro w hSw; (try dsimp only at hSw); go_simp <;> with_reducible rfl)
      try simp only [Act.put, List.setIfInBounds_toArray, List.set_cons_zero, List.set_cons_succ]
      -- 9: t57 := move t0 : 30   [if ⟨8, false⟩]
      refine wpB_take (i := 9) (v := undef) (get_of_drop rfl) (by kernel_rfl) (by kernel_rfl) (by kernel_rfl) (by kernel_rfl) (fun _ _ _ h => h) (Or.inr ⟨by rfl, rfl⟩) hHeld ?_
      try simp only [Act.put, List.setIfInBounds_toArray, List.set_cons_zero, List.set_cons_succ]
      -- 10: t58 := nilCheck t57 : 0   [if ⟨8, false⟩]
      refine wpB_take (i := 10) (v := undef) (get_of_drop rfl) (by kernel_rfl) (by kernel_rfl) (by kernel_rfl) (by kernel_rfl) (fun _ _ _ h => h) (Or.inr ⟨by rfl, rfl⟩) hHeld ?_
      try simp only [Act.put, List.setIfInBounds_toArray, List.set_cons_zero, List.set_cons_succ]
      -- 11: t59 := fieldAddr 100 t58 2 : 0   [if ⟨8, false⟩]
      refine wpB_take (i := 11) (v := undef) (get_of_drop rfl) (by kernel_rfl) (by kernel_rfl) (by kernel_rfl) (by kernel_rfl) (fun _ _ _ h => h) (Or.inr ⟨by rfl, rfl⟩) hHeld ?_
      try simp only [Act.put, List.setIfInBounds_toArray, List.set_cons_zero, List.set_cons_succ]
      -- 12: t60 := load 4 t59 : 4   [if ⟨8, false⟩]
      refine wpB_take (i := 12) (v := undef) (get_of_drop rfl) (by kernel_rfl) (by kernel_rfl) (by kernel_rfl) (by kernel_rfl) (fun _ _ _ h => h) (Or.inr ⟨by rfl, rfl⟩) hHeld ?_
      try simp only [Act.put, List.setIfInBounds_toArray, List.set_cons_zero, List.set_cons_succ]
      -- 13: t61 := pick t56 #true t60 : 4
      refine wpB_take (i := 13) (v := ?_) (get_of_drop rfl) (by kernel_rfl) (by kernel_rfl) (by kernel_rfl) (by kernel_rfl) (fun _ _ _ h => h) (Or.inl ⟨by rfl, ?_⟩) hHeld ?_
      rotate_left
      · (intro w hSw; (try dsimp only at hSw); go_simp <;> with_reducible rfl)
      try simp only [Act.put, List.setIfInBounds_toArray, List.set_cons_zero, List.set_cons_succ]
      -- 14: t6 := assign t61 : 4
      refine wpB_take (i := 14) (v := ?_) (get_of_drop rfl) (by kernel_rfl) (by kernel_rfl) (by kernel_rfl) (by kernel_rfl) (fun _ _ _ h => h) (Or.inl ⟨by rfl, ?_⟩) hHeld ?_
      rotate_left
      · (intro w hSw; (try dsimp only at hSw); go_simp <;> with_reducible rfl)
      try simp only [Act.put, List.setIfInBounds_toArray, List.set_cons_zero, List.set_cons_succ]
      refine wpB_done (by kernel_rfl) ?_ _
      go_wp2_with fail
      go_meet
      exact ⟨by rw [hv3], rfl⟩
    · have hv3 : newerR r m = r.ch := by rw [HNWF.out, decide_eq_false hv2]; rfl
      have U_8 : ∀ wx, Chg (fun _ => False) wb wx → wx.cell? ⟨p, 8, none⟩ = some (.bool r.ch) := fun wx hx => (cellAt (hx.blk BP.out (fun h => h)) 8).trans rfl
      refine wpB_start (fun wx : World => Chg (fun _ => False) wb wx) (by kernel_rfl) ?_
      have hHeld : (fun wx : World => Chg (fun _ => False) wb wx) _ := (Chg.refl (fun _ => False) wb).drew
      -- 0: t48 := fieldAddr 41 t3 1 : 0
      refine wpB_take (i := 0) (v := ?_) (get_of_drop rfl) (by kernel_rfl) (by kernel_rfl) (by kernel_rfl) (by kernel_rfl) (fun _ _ _ h => h) (Or.inl ⟨by rfl, ?_⟩) hHeld ?_
      rotate_left
      · (intro w hSw; (try dsimp only at hSw); go_simp <;> with_reducible rfl)
      try simp only [Act.put, List.setIfInBounds_toArray, List.set_cons_zero, List.set_cons_succ]
      -- 1: t49 := load 3 t48 : 3
      refine wpB_take (i := 1) (v := ?_) (get_of_drop rfl) (by kernel_rfl) (by kernel_rfl) (by kernel_rfl) (by kernel_rfl) (fun _ _ _ h => h) (Or.inl ⟨by rfl, ?_⟩) hHeld ?_
      rotate_left
      · (intro w hSw; (try dsimp only at hSw); go_simp <;> with_reducible rfl)
      try simp only [Act.put, List.setIfInBounds_toArray, List.set_cons_zero, List.set_cons_succ]
      -- 2: t50 := move t0 : 30
      refine wpB_take (i := 2) (v := ?_) (get_of_drop rfl) (by kernel_rfl) (by kernel_rfl) (by kernel_rfl) (by kernel_rfl) (fun _ _ _ h => h) (Or.inl ⟨by rfl, ?_⟩) hHeld ?_
      rotate_left
      · (intro w hSw; (try dsimp only at hSw); go_simp <;> with_reducible rfl)
      try simp only [Act.put, List.setIfInBounds_toArray, List.set_cons_zero, List.set_cons_succ]
      -- 3: t51 := nilCheck t50 : 0
      refine wpB_take (i := 3) (v := ?_) (get_of_drop rfl) (by kernel_rfl) (by kernel_rfl) (by kernel_rfl) (by kernel_rfl) (fun _ _ _ h => h) (Or.inl ⟨by rfl, ?_⟩) hHeld ?_
      rotate_left
      · (intro w hSw; (try dsimp only at hSw); go_simp <;> with_reducible rfl)
      try simp only [Act.put, List.setIfInBounds_toArray, List.set_cons_zero, List.set_cons_succ]
      -- 4: t52 := fieldAddr 100 t51 1 : 0
      refine wpB_take (i := 4) (v := ?_) (get_of_drop rfl) (by kernel_rfl) (by kernel_rfl) (by kernel_rfl) (by kernel_rfl) (fun _ _ _ h => h) (Or.inl ⟨by rfl, ?_⟩) hHeld ?_
      rotate_left
      · (intro w hSw; (try dsimp only at hSw); go_simp <;> with_reducible rfl)
      try simp only [Act.put, List.setIfInBounds_toArray, List.set_cons_zero, List.set_cons_succ]
      -- 5: t53 := fieldAddr 26 t52 0 : 0
      refine wpB_take (i := 5) (v := ?_) (get_of_drop rfl) (by kernel_rfl) (by kernel_rfl) (by kernel_rfl) (by kernel_rfl) (fun _ _ _ h => h) (Or.inl ⟨by rfl, ?_⟩) hHeld ?_
      rotate_left
      · (intro w hSw; (try dsimp only at hSw); go_simp <;> with_reducible rfl)
      try simp only [Act.put, List.setIfInBounds_toArray, List.set_cons_zero, List.set_cons_succ]
      -- 6: t54 := load 3 t53 : 3
      refine wpB_take (i := 6) (v := ?_) (get_of_drop rfl) (by kernel_rfl) (by kernel_rfl) (by kernel_rfl) (by kernel_rfl) (fun _ _ _ h => h) (Or.inl ⟨by rfl, ?_⟩) hHeld ?_
      rotate_left
      · (intro w hSw; (try dsimp only at hSw); go_simp <;> with_reducible rfl)
      try simp only [Act.put, List.setIfInBounds_toArray, List.set_cons_zero, List.set_cons_succ]
      -- 7: t55 := binOp BinOp.gtr 3 t49 t54 3 : 4
      refine wpB_take (i := 7) (v := ?_) (get_of_drop rfl) (by kernel_rfl) (by kernel_rfl) (by kernel_rfl) (by kernel_rfl) (fun _ _ _ h => h) (Or.inl ⟨by rfl, ?_⟩) hHeld ?_
      rotate_left
      · (intro w hSw; (try dsimp only at hSw); go_simp <;> with_reducible rfl)
      try simp only [Act.put, List.setIfInBounds_toArray, List.set_cons_zero, List.set_cons_succ]
      -- 8: t56 := move t55 : 4
      refine wpB_take (i := 8) (v := ?_) (get_of_drop rfl) (by kernel_rfl) (by kernel_rfl) (by kernel_rfl) (by kernel_rfl) (fun _ _ _ h => h) (Or.inl ⟨by rfl, ?_⟩) hHeld ?_
      rotate_left
      · (intro w hSw; (try dsimp only at hSw); go_simp <;> with_reducible rfl)
      try simp only [Act.put, List.setIfInBounds_toArray, List.set_cons_zero, List.set_cons_succ]
      -- 9: t57 := move t0 : 30   [if ⟨8, false⟩]
      refine wpB_take (i := 9) (v := ?_) (get_of_drop rfl) (by kernel_rfl) (by kernel_rfl) (by kernel_rfl) (by kernel_rfl) (fun _ _ _ h => h) (Or.inl ⟨by rfl, ?_⟩) hHeld ?_
      rotate_left
      · (intro w hSw; (try dsimp only at hSw); go_simp <;> with_reducible rfl)
      try simp only [Act.put, List.setIfInBounds_toArray, List.set_cons_zero, List.set_cons_succ]
      -- 10: t58 := nilCheck t57 : 0   [if ⟨8, false⟩]
      refine wpB_take (i := 10) (v := ?_) (get_of_drop rfl) (by kernel_rfl) (by kernel_rfl) (by kernel_rfl) (by kernel_rfl) (fun _ _ _ h => h) (Or.inl ⟨by rfl, ?_⟩) hHeld ?_
      rotate_left
      · (intro w hSw; (try dsimp only at hSw); go_simp <;> with_reducible rfl)
      try simp only [Act.put, List.setIfInBounds_toArray, List.set_cons_zero, List.set_cons_succ]
      -- 11: t59 := fieldAddr 100 t58 2 : 0   [if ⟨8, false⟩]
      refine wpB_take (i := 11) (v := ?_) (get_of_drop rfl) (by kernel_rfl) (by kernel_rfl) (by kernel_rfl) (by kernel_rfl) (fun _ _ _ h => h) (Or.inl ⟨by rfl, ?_⟩) hHeld ?_
      rotate_left
      · (intro w hSw; (try dsimp only at hSw); go_simp <;> with_reducible rfl)
      try simp only [Act.put, List.setIfInBounds_toArray, List.set_cons_zero, List.set_cons_succ]
      -- 12: t60 := load 4 t59 : 4   [if ⟨8, false⟩]
      refine wpB_take (i := 12) (v := ?_) (get_of_drop rfl) (by kernel_rfl) (by kernel_rfl) (by kernel_rfl) (by kernel_rfl) (fun _ _ _ h => h) (Or.inl ⟨by rfl, ?_⟩) hHeld ?_
      rotate_left
      · (intro w hSw; (try dsimp only at hSw); go_simp <;> with_reducible rfl)
      try simp only [Act.put, List.setIfInBounds_toArray, List.set_cons_zero, List.set_cons_succ]
      -- 13: t61 := pick t56 #true t60 : 4
      refine wpB_take (i := 13) (v := ?_) (get_of_drop rfl) (by kernel_rfl) (by kernel_rfl) (by kernel_rfl) (by kernel_rfl) (fun _ _ _ h => h) (Or.inl ⟨by rfl, ?_⟩) hHeld ?_
      rotate_left
      · (intro w hSw; (try dsimp only at hSw); go_simp <;> with_reducible rfl)
      try simp only [Act.put, List.setIfInBounds_toArray, List.set_cons_zero, List.set_cons_succ]
      -- 14: t6 := assign t61 : 4
      refine wpB_take (i := 14) (v := ?_) (get_of_drop rfl) (by kernel_rfl) (by kernel_rfl) (by kernel_rfl) (by kernel_rfl) (fun _ _ _ h => h) (Or.inl ⟨by rfl, ?_⟩) hHeld ?_
      rotate_left
      · (intro w hSw; (try dsimp only at hSw); go_simp <;> with_reducible rfl)
      try simp only [Act.put, List.setIfInBounds_toArray, List.set_cons_zero, List.set_cons_succ]
      refine wpB_done (by kernel_rfl) ?_ _
      go_wp2_with fail
      go_meet
      exact ⟨by rw [hv3], rfl⟩
  case rest =>
    obtain ⟨hv6, hw6⟩ := hcut
    subst hv6
    obtain ⟨wn, hdn⟩ : ∃ q_, q_ = wb.drew := ⟨_, rfl⟩
    rw [← hdn] at hw6
    obtain rfl := hw6.symm
    replace K := hid (show Chg (fun _ => False) w wn by rw [hdn]; exact K.out.drew)
    replace H := hid (show Rep w wn p b1 b2 b3 X r A n c (.slice none 0 0) by rw [hdn]; exact H.out.far ((Chg.refl (fun _ => False) wb).drew))
    replace BX := hid (show wn.heap[b]? = some (.cells #[.int .i64 m.kind, .int .i64 m.view, .int .i64 m.src, .int .i64 m.dst, .int .i64 m.op, .int .i64 m.commit, .int .i64 m.normal, .slice B k d] 41 (0, 0)) by rw [hdn]; exact blk_drew BX.out)
    replace HM := hid (show Ty.At entryK wn (fun j => R j ∧ j < w.heap.size) B k d m.log by rw [hdn]; exact HM.out.chg ((Chg.refl (fun _ => False) wb).drew) (fun _ _ h => h))
    replace BP := hid H.out.blk
    clear hdn X_1 U_3
    rcases (show m.kind = 1 ∨ m.kind = 2 ∨ m.kind = 3 ∨ m.kind = 4 ∨ m.kind = 5 ∨ m.kind = 6 ∨ m.kind = 7 ∨ m.kind = 8 by have := (msgR_num HMR.out).1; omega) with hk | hk | hk | hk | hk | hk | hk | hk
    · have HKD := hid hk
      clear hk
      have X_K : wn.cell? ⟨b, 0, none⟩ = some (.int .i64 1) := by rw [← HKD.out]; exact (cellAt BX.out 0).trans rfl
      have X_1 : wn.cell? ⟨b, 1, none⟩ = some (.int .i64 m.view) := (cellAt BX.out 1).trans rfl
      have X_2 : wn.cell? ⟨b, 2, none⟩ = some (.int .i64 m.src) := (cellAt BX.out 2).trans rfl
      have X_3 : wn.cell? ⟨b, 3, none⟩ = some (.int .i64 m.dst) := (cellAt BX.out 3).trans rfl
      have X_4 : wn.cell? ⟨b, 4, none⟩ = some (.int .i64 m.op) := (cellAt BX.out 4).trans rfl
      have X_5 : wn.cell? ⟨b, 5, none⟩ = some (.int .i64 m.commit) := (cellAt BX.out 5).trans rfl
      have X_6 : wn.cell? ⟨b, 6, none⟩ = some (.int .i64 m.normal) := (cellAt BX.out 6).trans rfl
      have X_7 : wn.cell? ⟨b, 7, none⟩ = some (.slice B k d) := (cellAt BX.out 7).trans rfl
      have hkd := HKD.out
      go_wp2_with fail
      clear X_K X_1 X_2 X_3 X_4 X_5 X_6 X_7
      rw [← hkd]
      clear hkd
      refine (follow_any H.out HM.out (fun j hj _ e => by rcases e with e | e; exact HR.out j hj.1 hj.2 e; simp [Value.ownBlock] at e) HOK.out HMR.out HS.out (by rw [HO.out]; decide) HVL.out).mono ?_
      rintro e' we ⟨A', n', c', O', rfl, he, hoe, ke⟩
      have H2 := hid he
      have K2 := hid ke
      clear he hoe ke
      go_wp2_with fail
      refine (sent_any H2.out).mono ?_
      rintro e' w9 ⟨rfl, h9, hv9, k9⟩
      have H9 := hid h9
      have HV9 := hid hv9
      have K9 := hid k9
      clear h9 hv9 k9
      go_wp2_with fail
      go_ret2
      have e1 : deliverR r m = (followR r m, 0) := by rw [HDL.out]; unfold heardR; rw [if_pos (.inl HKD.out)]
      rw [e1]
      refine ⟨_, rfl, ⟨_, _, _, H9.out⟩, HV9.out, no_own ?_⟩
      exact ((K.out.mono (S' := fun j => M4 p b1 b2 b3 j ∨ (Value.slice none 0 0).ownBlock = some j) (fun _ h _ => h.elim)).trans K2.out (fun j hj _ => hj)).trans K9.out (fun j hj _ => .inl (.inl hj))
    · have HKD := hid hk
      clear hk
      have X_K : wn.cell? ⟨b, 0, none⟩ = some (.int .i64 2) := by rw [← HKD.out]; exact (cellAt BX.out 0).trans rfl
      have X_1 : wn.cell? ⟨b, 1, none⟩ = some (.int .i64 m.view) := (cellAt BX.out 1).trans rfl
      have X_2 : wn.cell? ⟨b, 2, none⟩ = some (.int .i64 m.src) := (cellAt BX.out 2).trans rfl
      have X_3 : wn.cell? ⟨b, 3, none⟩ = some (.int .i64 m.dst) := (cellAt BX.out 3).trans rfl
      have X_4 : wn.cell? ⟨b, 4, none⟩ = some (.int .i64 m.op) := (cellAt BX.out 4).trans rfl
      have X_5 : wn.cell? ⟨b, 5, none⟩ = some (.int .i64 m.commit) := (cellAt BX.out 5).trans rfl
      have X_6 : wn.cell? ⟨b, 6, none⟩ = some (.int .i64 m.normal) := (cellAt BX.out 6).trans rfl
      have X_7 : wn.cell? ⟨b, 7, none⟩ = some (.slice B k d) := (cellAt BX.out 7).trans rfl
      have hkd := HKD.out
      go_wp2_with fail
      clear X_K X_1 X_2 X_3 X_4 X_5 X_6 X_7
      rw [← hkd]
      clear hkd
      refine (ack_any H.out HOK.out HMR.out (by have := HOK.out.lens; omega)).mono ?_
      rintro e' we ⟨rfl, he, ke⟩
      have H2 := hid he
      have K2 := hid (show Chg (fun j => M4 p b1 b2 b3 j ∨ (Value.slice none 0 0).ownBlock = some j) wn we from ke.mono (fun _ h _ => .inl h))
      clear he ke
      go_wp2_with fail
      refine (sent_any H2.out).mono ?_
      rintro e' w9 ⟨rfl, h9, hv9, k9⟩
      have H9 := hid h9
      have HV9 := hid hv9
      have K9 := hid k9
      clear h9 hv9 k9
      go_wp2_with fail
      go_ret2
      have e1 : deliverR r m = (ackR r m, 0) := by rw [HDL.out]; unfold heardR; rw [if_neg (fun h => by rcases h with h | h <;> exact absurd (HKD.out.symm.trans h) (by decide))]; rw [if_pos HKD.out]
      rw [e1]
      refine ⟨_, rfl, ⟨_, _, _, H9.out⟩, HV9.out, no_own ?_⟩
      exact ((K.out.mono (S' := fun j => M4 p b1 b2 b3 j ∨ (Value.slice none 0 0).ownBlock = some j) (fun _ h _ => h.elim)).trans K2.out (fun j hj _ => hj)).trans K9.out (fun j hj _ => .inl (.inl hj))
    · have HKD := hid hk
      clear hk
      have X_K : wn.cell? ⟨b, 0, none⟩ = some (.int .i64 3) := by rw [← HKD.out]; exact (cellAt BX.out 0).trans rfl
      have X_1 : wn.cell? ⟨b, 1, none⟩ = some (.int .i64 m.view) := (cellAt BX.out 1).trans rfl
      have X_2 : wn.cell? ⟨b, 2, none⟩ = some (.int .i64 m.src) := (cellAt BX.out 2).trans rfl
      have X_3 : wn.cell? ⟨b, 3, none⟩ = some (.int .i64 m.dst) := (cellAt BX.out 3).trans rfl
      have X_4 : wn.cell? ⟨b, 4, none⟩ = some (.int .i64 m.op) := (cellAt BX.out 4).trans rfl
      have X_5 : wn.cell? ⟨b, 5, none⟩ = some (.int .i64 m.commit) := (cellAt BX.out 5).trans rfl
      have X_6 : wn.cell? ⟨b, 6, none⟩ = some (.int .i64 m.normal) := (cellAt BX.out 6).trans rfl
      have X_7 : wn.cell? ⟨b, 7, none⟩ = some (.slice B k d) := (cellAt BX.out 7).trans rfl
      have hkd := HKD.out
      go_wp2_with fail
      clear X_K X_1 X_2 X_3 X_4 X_5 X_6 X_7
      rw [← hkd]
      clear hkd
      refine (follow_any H.out HM.out (fun j hj _ e => by rcases e with e | e; exact HR.out j hj.1 hj.2 e; simp [Value.ownBlock] at e) HOK.out HMR.out HS.out (by rw [HO.out]; decide) HVL.out).mono ?_
      rintro e' we ⟨A', n', c', O', rfl, he, hoe, ke⟩
      have H2 := hid he
      have K2 := hid ke
      clear he hoe ke
      go_wp2_with fail
      refine (sent_any H2.out).mono ?_
      rintro e' w9 ⟨rfl, h9, hv9, k9⟩
      have H9 := hid h9
      have HV9 := hid hv9
      have K9 := hid k9
      clear h9 hv9 k9
      go_wp2_with fail
      go_ret2
      have e1 : deliverR r m = (followR r m, 0) := by rw [HDL.out]; unfold heardR; rw [if_pos (.inr HKD.out)]
      rw [e1]
      refine ⟨_, rfl, ⟨_, _, _, H9.out⟩, HV9.out, no_own ?_⟩
      exact ((K.out.mono (S' := fun j => M4 p b1 b2 b3 j ∨ (Value.slice none 0 0).ownBlock = some j) (fun _ h _ => h.elim)).trans K2.out (fun j hj _ => hj)).trans K9.out (fun j hj _ => .inl (.inl hj))
    · have HKD := hid hk
      clear hk
      have X_K : wn.cell? ⟨b, 0, none⟩ = some (.int .i64 4) := by rw [← HKD.out]; exact (cellAt BX.out 0).trans rfl
      have X_1 : wn.cell? ⟨b, 1, none⟩ = some (.int .i64 m.view) := (cellAt BX.out 1).trans rfl
      have X_2 : wn.cell? ⟨b, 2, none⟩ = some (.int .i64 m.src) := (cellAt BX.out 2).trans rfl
      have X_3 : wn.cell? ⟨b, 3, none⟩ = some (.int .i64 m.dst) := (cellAt BX.out 3).trans rfl
      have X_4 : wn.cell? ⟨b, 4, none⟩ = some (.int .i64 m.op) := (cellAt BX.out 4).trans rfl
      have X_5 : wn.cell? ⟨b, 5, none⟩ = some (.int .i64 m.commit) := (cellAt BX.out 5).trans rfl
      have X_6 : wn.cell? ⟨b, 6, none⟩ = some (.int .i64 m.normal) := (cellAt BX.out 6).trans rfl
      have X_7 : wn.cell? ⟨b, 7, none⟩ = some (.slice B k d) := (cellAt BX.out 7).trans rfl
      have hkd := HKD.out
      go_wp2_with fail
      clear X_K X_1 X_2 X_3 X_4 X_5 X_6 X_7
      rw [← hkd]
      clear hkd
      refine (turn4_any H.out HM.out (fun j hj _ e => by rcases e with e | e; exact HR.out j hj.1 hj.2 e; simp [Value.ownBlock] at e) HOK.out HMR.out HS.out (by rw [HO.out]; decide) HKD.out).mono ?_
      rintro e' we ⟨A', n', c', O', rfl, he, hoe, ke⟩
      have H2 := hid he
      have K2 := hid ke
      clear he hoe ke
      go_wp2_with fail
      refine (sent_any H2.out).mono ?_
      rintro e' w9 ⟨rfl, h9, hv9, k9⟩
      have H9 := hid h9
      have HV9 := hid hv9
      have K9 := hid k9
      clear h9 hv9 k9
      go_wp2_with fail
      go_ret2
      have e1 : deliverR r m = (turnR r m, 0) := by rw [HDL.out]; unfold heardR; rw [if_neg (fun h => by rcases h with h | h <;> exact absurd (HKD.out.symm.trans h) (by decide))]; rw [if_neg (fun h => absurd (HKD.out.symm.trans h) (by decide))]; rw [if_pos (.inl HKD.out)]
      rw [e1]
      refine ⟨_, rfl, ⟨_, _, _, H9.out⟩, HV9.out, no_own ?_⟩
      exact ((K.out.mono (S' := fun j => M4 p b1 b2 b3 j ∨ (Value.slice none 0 0).ownBlock = some j) (fun _ h _ => h.elim)).trans K2.out (fun j hj _ => hj)).trans K9.out (fun j hj _ => .inl (.inl hj))
    · have HKD := hid hk
      clear hk
      have X_K : wn.cell? ⟨b, 0, none⟩ = some (.int .i64 5) := by rw [← HKD.out]; exact (cellAt BX.out 0).trans rfl
      have X_1 : wn.cell? ⟨b, 1, none⟩ = some (.int .i64 m.view) := (cellAt BX.out 1).trans rfl
      have X_2 : wn.cell? ⟨b, 2, none⟩ = some (.int .i64 m.src) := (cellAt BX.out 2).trans rfl
      have X_3 : wn.cell? ⟨b, 3, none⟩ = some (.int .i64 m.dst) := (cellAt BX.out 3).trans rfl
      have X_4 : wn.cell? ⟨b, 4, none⟩ = some (.int .i64 m.op) := (cellAt BX.out 4).trans rfl
      have X_5 : wn.cell? ⟨b, 5, none⟩ = some (.int .i64 m.commit) := (cellAt BX.out 5).trans rfl
      have X_6 : wn.cell? ⟨b, 6, none⟩ = some (.int .i64 m.normal) := (cellAt BX.out 6).trans rfl
      have X_7 : wn.cell? ⟨b, 7, none⟩ = some (.slice B k d) := (cellAt BX.out 7).trans rfl
      have hkd := HKD.out
      go_wp2_with fail
      clear X_K X_1 X_2 X_3 X_4 X_5 X_6 X_7
      rw [← hkd]
      clear hkd
      refine (turn5_any H.out HM.out (fun j hj _ e => HR.out j hj.1 hj.2 e) HOK.out HMR.out HS.out HO.out HKD.out).mono ?_
      rintro e' we ⟨A', n', c', O', rfl, he, hoe, ke⟩
      have H2 := hid he
      have K2 := hid ke
      clear he hoe ke
      go_wp2_with fail
      refine (sent_any H2.out).mono ?_
      rintro e' w9 ⟨rfl, h9, hv9, k9⟩
      have H9 := hid h9
      have HV9 := hid hv9
      have K9 := hid k9
      clear h9 hv9 k9
      go_wp2_with fail
      go_ret2
      have e1 : deliverR r m = (turnR r m, 0) := by rw [HDL.out]; unfold heardR; rw [if_neg (fun h => by rcases h with h | h <;> exact absurd (HKD.out.symm.trans h) (by decide))]; rw [if_neg (fun h => absurd (HKD.out.symm.trans h) (by decide))]; rw [if_pos (.inr HKD.out)]
      rw [e1]
      refine ⟨_, rfl, ⟨_, _, _, H9.out⟩, HV9.out, no_own ?_⟩
      exact ((K.out.mono (S' := fun j => M4 p b1 b2 b3 j ∨ (Value.slice none 0 0).ownBlock = some j) (fun _ h _ => h.elim)).trans K2.out (fun j hj _ => hj)).trans K9.out (fun j hj _ => .inl (.inl hj))
    · have HKD := hid hk
      clear hk
      have X_K : wn.cell? ⟨b, 0, none⟩ = some (.int .i64 6) := by rw [← HKD.out]; exact (cellAt BX.out 0).trans rfl
      go_wp2_with fail
      clear X_K
      have X_1 : ∀ wx, Chg (fun _ => False) wn wx → wx.cell? ⟨b, 1, none⟩ = some (.int .i64 m.view) := fun wx hx => (cellAt (hx.blk BX.out (fun h => h)) 1).trans rfl
      have X_2 : ∀ wx, Chg (fun _ => False) wn wx → wx.cell? ⟨b, 2, none⟩ = some (.int .i64 m.src) := fun wx hx => (cellAt (hx.blk BX.out (fun h => h)) 2).trans rfl
      by_cases hp : m.src = primR r m.view
      · have hp2 : (m.src == primR r m.view) = true := by simp [hp]
        have HP := hid hp
        clear hp
        refine wpB_start (fun wx : World => Chg (fun _ => False) wn wx) (by kernel_rfl) ?_
        have hHeld : (fun wx : World => Chg (fun _ => False) wn wx) _ := (Chg.refl (fun _ => False) wn).drew
        -- 0: t83 := fieldAddr 41 t3 2 : 0
        refine wpB_take (i := 0) (v := ?_) (get_of_drop rfl) (by kernel_rfl) (by kernel_rfl) (by kernel_rfl) (by kernel_rfl) (fun _ _ _ h => h) (Or.inl ⟨by rfl, ?_⟩) hHeld ?_
        rotate_left
        · (intro w hSw; (try dsimp only at hSw); go_simp <;> with_reducible rfl)
        try simp only [Act.put, List.setIfInBounds_toArray, List.set_cons_zero, List.set_cons_succ]
        -- 1: t84 := load 3 t83 : 3
        refine wpB_take (i := 1) (v := ?_) (get_of_drop rfl) (by kernel_rfl) (by kernel_rfl) (by kernel_rfl) (by kernel_rfl) (fun _ _ _ h => h) (Or.inl ⟨by rfl, ?_⟩) hHeld ?_
        rotate_left
        · (intro w hSw; (try dsimp only at hSw); go_simp <;> with_reducible rfl)
        try simp only [Act.put, List.setIfInBounds_toArray, List.set_cons_zero, List.set_cons_succ]
        -- 2: t85 := move t0 : 30
        refine wpB_take (i := 2) (v := ?_) (get_of_drop rfl) (by kernel_rfl) (by kernel_rfl) (by kernel_rfl) (by kernel_rfl) (fun _ _ _ h => h) (Or.inl ⟨by rfl, ?_⟩) hHeld ?_
        rotate_left
        · (intro w hSw; (try dsimp only at hSw); go_simp <;> with_reducible rfl)
        try simp only [Act.put, List.setIfInBounds_toArray, List.set_cons_zero, List.set_cons_succ]
        -- 3: t86 := fieldAddr 41 t3 1 : 0
        refine wpB_take (i := 3) (v := ?_) (get_of_drop rfl) (by kernel_rfl) (by kernel_rfl) (by kernel_rfl) (by kernel_rfl) (fun _ _ _ h => h) (Or.inl ⟨by rfl, ?_⟩) hHeld ?_
        rotate_left
        · (intro w hSw; (try dsimp only at hSw); go_simp <;> with_reducible rfl)
        try simp only [Act.put, List.setIfInBounds_toArray, List.set_cons_zero, List.set_cons_succ]
        -- 4: t87 := load 3 t86 : 3
        refine wpB_take (i := 4) (v := ?_) (get_of_drop rfl) (by kernel_rfl) (by kernel_rfl) (by kernel_rfl) (by kernel_rfl) (fun _ _ _ h => h) (Or.inl ⟨by rfl, ?_⟩) hHeld ?_
        rotate_left
        · (intro w hSw; (try dsimp only at hSw); go_simp <;> with_reducible rfl)
        try simp only [Act.put, List.setIfInBounds_toArray, List.set_cons_zero, List.set_cons_succ]
        -- 5: t88 := CALL fn48(t85, t87) : 3
        refine wpB_act (i := 5) (by kernel_rfl) (get_of_drop rfl) (fun K hK => ?_)
        go_simp
        refine (prim_any (H.out.far hHeld) HOK.out.cfg.1 (msgR_num HMR.out).2.1).mono ?_
        rintro e' wy ⟨rfl, rfl⟩
        refine hK.out _ _ ?_ (fun hHeld2 => ?_)
        · first | assumption | exact Chg.alloc hHeld _
        clear hHeld hK K
        have hHeld := hHeld2
        clear hHeld2
        try simp only [Act.put, List.setIfInBounds_toArray, List.set_cons_zero, List.set_cons_succ]
        -- 6: t89 := binOp BinOp.eql 3 t84 t88 3 : 4
        refine wpB_take (i := 6) (v := ?_) (get_of_drop rfl) (by kernel_rfl) (by kernel_rfl) (by kernel_rfl) (by kernel_rfl) (fun _ _ _ h => h) (Or.inl ⟨by rfl, ?_⟩) hHeld ?_
        rotate_left
        · (intro w hSw; (try dsimp only at hSw); go_simp <;> with_reducible rfl)
        try simp only [Act.put, List.setIfInBounds_toArray, List.set_cons_zero, List.set_cons_succ]
        -- 7: t90 := move t89 : 4
        refine wpB_take (i := 7) (v := ?_) (get_of_drop rfl) (by kernel_rfl) (by kernel_rfl) (by kernel_rfl) (by kernel_rfl) (fun _ _ _ h => h) (Or.inl ⟨by rfl, ?_⟩) hHeld ?_
        rotate_left
        · (intro w hSw; (try dsimp only at hSw); go_simp <;> with_reducible rfl)
        try simp only [Act.put, List.setIfInBounds_toArray, List.set_cons_zero, List.set_cons_succ]
        -- 8: t91 := move t6 : 4   [if ⟨7, true⟩]
        refine wpB_take (i := 8) (v := ?_) (get_of_drop rfl) (by kernel_rfl) (by kernel_rfl) (by kernel_rfl) (by kernel_rfl) (fun _ _ _ h => h) (Or.inl ⟨by rfl, ?_⟩) hHeld ?_
        rotate_left
        · (intro w hSw; (try dsimp only at hSw); go_simp <;> with_reducible rfl)
        try simp only [Act.put, List.setIfInBounds_toArray, List.set_cons_zero, List.set_cons_succ]
        -- 9: t92 := pick t90 t91 #false : 4
        refine wpB_take (i := 9) (v := ?_) (get_of_drop rfl) (by kernel_rfl) (by kernel_rfl) (by kernel_rfl) (by kernel_rfl) (fun _ _ _ h => h) (Or.inl ⟨by rfl, ?_⟩) hHeld ?_
        rotate_left
        · (intro w hSw; (try dsimp only at hSw); go_simp <;> with_reducible rfl)
        try simp only [Act.put, List.setIfInBounds_toArray, List.set_cons_zero, List.set_cons_succ]
        refine wpB_done (by kernel_rfl) ?_ _
        obtain ⟨wm, hdn⟩ : ∃ q_, q_ = wn.drew := ⟨_, rfl⟩
        rw [← hdn]
        replace K := hid (show Chg (fun _ => False) w wm by rw [hdn]; exact K.out.drew)
        replace H := hid (show Rep w wm p b1 b2 b3 X r A n c (.slice none 0 0) by rw [hdn]; exact H.out.far ((Chg.refl (fun _ => False) wn).drew))
        replace BX := hid (show wm.heap[b]? = some (.cells #[.int .i64 m.kind, .int .i64 m.view, .int .i64 m.src, .int .i64 m.dst, .int .i64 m.op, .int .i64 m.commit, .int .i64 m.normal, .slice B k d] 41 (0, 0)) by rw [hdn]; exact blk_drew BX.out)
        replace HM := hid (show Ty.At entryK wm (fun j => R j ∧ j < w.heap.size) B k d m.log by rw [hdn]; exact HM.out.chg ((Chg.refl (fun _ => False) wn).drew) (fun _ _ h => h))
        replace BP := hid H.out.blk
        clear hdn hHeld
        clear X_1 X_2 hp2
        cases hnw : newerR r m
        · have HNW := hid hnw
          clear hnw
          have H2 := hid H.out
          have K2 := hid (show Chg (fun j => M4 p b1 b2 b3 j ∨ (Value.slice none 0 0).ownBlock = some j) wm wm from Chg.refl _ _)
          go_wp2_with fail
          refine (sent_any H2.out).mono ?_
          rintro e' w9 ⟨rfl, h9, hv9, k9⟩
          have H9 := hid h9
          have HV9 := hid hv9
          have K9 := hid k9
          clear h9 hv9 k9
          go_wp2_with fail
          go_ret2
          have e1 : deliverR r m = (r, 0) := by rw [HDL.out]; unfold heardR; rw [if_neg (fun h => by rcases h with h | h <;> exact absurd (HKD.out.symm.trans h) (by decide))]; rw [if_neg (fun h => absurd (HKD.out.symm.trans h) (by decide))]; rw [if_neg (fun h => by rcases h with h | h <;> exact absurd (HKD.out.symm.trans h) (by decide))]; rw [if_pos HKD.out]; rw [if_neg (fun h => by rw [HNW.out] at h; exact absurd h.2 (by decide))]
          rw [e1]
          refine ⟨_, rfl, ⟨_, _, _, H9.out⟩, HV9.out, no_own ?_⟩
          exact ((K.out.mono (S' := fun j => M4 p b1 b2 b3 j ∨ (Value.slice none 0 0).ownBlock = some j) (fun _ h _ => h.elim)).trans K2.out (fun j hj _ => hj)).trans K9.out (fun j hj _ => .inl (.inl hj))
        · have HNW := hid hnw
          clear hnw
          have X_0 : wm.cell? ⟨b, 0, none⟩ = some (.int .i64 m.kind) := (cellAt BX.out 0).trans rfl
          have X_1 : wm.cell? ⟨b, 1, none⟩ = some (.int .i64 m.view) := (cellAt BX.out 1).trans rfl
          have X_2 : wm.cell? ⟨b, 2, none⟩ = some (.int .i64 m.src) := (cellAt BX.out 2).trans rfl
          have X_3 : wm.cell? ⟨b, 3, none⟩ = some (.int .i64 m.dst) := (cellAt BX.out 3).trans rfl
          have X_4 : wm.cell? ⟨b, 4, none⟩ = some (.int .i64 m.op) := (cellAt BX.out 4).trans rfl
          have X_5 : wm.cell? ⟨b, 5, none⟩ = some (.int .i64 m.commit) := (cellAt BX.out 5).trans rfl
          have X_6 : wm.cell? ⟨b, 6, none⟩ = some (.int .i64 m.normal) := (cellAt BX.out 6).trans rfl
          have X_7 : wm.cell? ⟨b, 7, none⟩ = some (.slice B k d) := (cellAt BX.out 7).trans rfl
          go_wp2_with fail
          clear X_0 X_1 X_2 X_3 X_4 X_5 X_6 X_7
          refine (take_any H.out HM.out HOK.out HMR.out (by rw [HO.out]; decide)).mono ?_
          rintro e' we ⟨A', n', c', O', rfl, he, hoe, ke⟩
          have H2 := hid he
          have K2 := hid ke
          clear he hoe ke
          go_wp2_with fail
          refine (sent_any H2.out).mono ?_
          rintro e' w9 ⟨rfl, h9, hv9, k9⟩
          have H9 := hid h9
          have HV9 := hid hv9
          have K9 := hid k9
          clear h9 hv9 k9
          go_wp2_with fail
          go_ret2
          have e1 : deliverR r m = (takeR r m, 0) := by rw [HDL.out]; unfold heardR; rw [if_neg (fun h => by rcases h with h | h <;> exact absurd (HKD.out.symm.trans h) (by decide))]; rw [if_neg (fun h => absurd (HKD.out.symm.trans h) (by decide))]; rw [if_neg (fun h => by rcases h with h | h <;> exact absurd (HKD.out.symm.trans h) (by decide))]; rw [if_pos HKD.out]; rw [if_pos ⟨HP.out, HNW.out⟩]
          rw [e1]
          refine ⟨_, rfl, ⟨_, _, _, H9.out⟩, HV9.out, no_own ?_⟩
          exact ((K.out.mono (S' := fun j => M4 p b1 b2 b3 j ∨ (Value.slice none 0 0).ownBlock = some j) (fun _ h _ => h.elim)).trans K2.out (fun j hj _ => hj)).trans K9.out (fun j hj _ => .inl (.inl hj))
      · have hp2 : (m.src == primR r m.view) = false := by simp [hp]
        have HP := hid (show ¬ m.src = primR r m.view from hp)
        clear hp
        refine wpB_start (fun wx : World => Chg (fun _ => False) wn wx) (by kernel_rfl) ?_
        have hHeld : (fun wx : World => Chg (fun _ => False) wn wx) _ := (Chg.refl (fun _ => False) wn).drew
        -- 0: t83 := fieldAddr 41 t3 2 : 0
        refine wpB_take (i := 0) (v := ?_) (get_of_drop rfl) (by kernel_rfl) (by kernel_rfl) (by kernel_rfl) (by kernel_rfl) (fun _ _ _ h => h) (Or.inl ⟨by rfl, ?_⟩) hHeld ?_
        rotate_left
        · (intro w hSw; (try dsimp only at hSw); go_simp <;> with_reducible rfl)
        try simp only [Act.put, List.setIfInBounds_toArray, List.set_cons_zero, List.set_cons_succ]
        -- 1: t84 := load 3 t83 : 3
        refine wpB_take (i := 1) (v := ?_) (get_of_drop rfl) (by kernel_rfl) (by kernel_rfl) (by kernel_rfl) (by kernel_rfl) (fun _ _ _ h => h) (Or.inl ⟨by rfl, ?_⟩) hHeld ?_
        rotate_left
        · (intro w hSw; (try dsimp only at hSw); go_simp <;> with_reducible rfl)
        try simp only [Act.put, List.setIfInBounds_toArray, List.set_cons_zero, List.set_cons_succ]
        -- 2: t85 := move t0 : 30
        refine wpB_take (i := 2) (v := ?_) (get_of_drop rfl) (by kernel_rfl) (by kernel_rfl) (by kernel_rfl) (by kernel_rfl) (fun _ _ _ h => h) (Or.inl ⟨by rfl, ?_⟩) hHeld ?_
        rotate_left
        · (intro w hSw; (try dsimp only at hSw); go_simp <;> with_reducible rfl)
        try simp only [Act.put, List.setIfInBounds_toArray, List.set_cons_zero, List.set_cons_succ]
        -- 3: t86 := fieldAddr 41 t3 1 : 0
        refine wpB_take (i := 3) (v := ?_) (get_of_drop rfl) (by kernel_rfl) (by kernel_rfl) (by kernel_rfl) (by kernel_rfl) (fun _ _ _ h => h) (Or.inl ⟨by rfl, ?_⟩) hHeld ?_
        rotate_left
        · (intro w hSw; (try dsimp only at hSw); go_simp <;> with_reducible rfl)
        try simp only [Act.put, List.setIfInBounds_toArray, List.set_cons_zero, List.set_cons_succ]
        -- 4: t87 := load 3 t86 : 3
        refine wpB_take (i := 4) (v := ?_) (get_of_drop rfl) (by kernel_rfl) (by kernel_rfl) (by kernel_rfl) (by kernel_rfl) (fun _ _ _ h => h) (Or.inl ⟨by rfl, ?_⟩) hHeld ?_
        rotate_left
        · (intro w hSw; (try dsimp only at hSw); go_simp <;> with_reducible rfl)
        try simp only [Act.put, List.setIfInBounds_toArray, List.set_cons_zero, List.set_cons_succ]
        -- 5: t88 := CALL fn48(t85, t87) : 3
        refine wpB_act (i := 5) (by kernel_rfl) (get_of_drop rfl) (fun K hK => ?_)
        go_simp
        refine (prim_any (H.out.far hHeld) HOK.out.cfg.1 (msgR_num HMR.out).2.1).mono ?_
        rintro e' wy ⟨rfl, rfl⟩
        refine hK.out _ _ ?_ (fun hHeld2 => ?_)
        · first | assumption | exact Chg.alloc hHeld _
        clear hHeld hK K
        have hHeld := hHeld2
        clear hHeld2
        try simp only [Act.put, List.setIfInBounds_toArray, List.set_cons_zero, List.set_cons_succ]
        -- 6: t89 := binOp BinOp.eql 3 t84 t88 3 : 4
        refine wpB_take (i := 6) (v := ?_) (get_of_drop rfl) (by kernel_rfl) (by kernel_rfl) (by kernel_rfl) (by kernel_rfl) (fun _ _ _ h => h) (Or.inl ⟨by rfl, ?_⟩) hHeld ?_
        rotate_left
        · (intro w hSw; (try dsimp only at hSw); go_simp <;> with_reducible rfl)
        try simp only [Act.put, List.setIfInBounds_toArray, List.set_cons_zero, List.set_cons_succ]
        -- 7: t90 := move t89 : 4
        refine wpB_take (i := 7) (v := ?_) (get_of_drop rfl) (by kernel_rfl) (by kernel_rfl) (by kernel_rfl) (by kernel_rfl) (fun _ _ _ h => h) (Or.inl ⟨by rfl, ?_⟩) hHeld ?_
        rotate_left
        · (intro w hSw; (try dsimp only at hSw); go_simp <;> with_reducible rfl)
        try simp only [Act.put, List.setIfInBounds_toArray, List.set_cons_zero, List.set_cons_succ]
        -- 8: t91 := move t6 : 4   [if ⟨7, true⟩]
        refine wpB_take (i := 8) (v := undef) (get_of_drop rfl) (by kernel_rfl) (by kernel_rfl) (by kernel_rfl) (by kernel_rfl) (fun _ _ _ h => h) (Or.inr ⟨by rfl, rfl⟩) hHeld ?_
        try simp only [Act.put, List.setIfInBounds_toArray, List.set_cons_zero, List.set_cons_succ]
        -- 9: t92 := pick t90 t91 #false : 4
        refine wpB_take (i := 9) (v := ?_) (get_of_drop rfl) (by kernel_rfl) (by kernel_rfl) (by kernel_rfl) (by kernel_rfl) (fun _ _ _ h => h) (Or.inl ⟨by rfl, ?_⟩) hHeld ?_
        rotate_left
        · (intro w hSw; (try dsimp only at hSw); go_simp <;> with_reducible rfl)
        try simp only [Act.put, List.setIfInBounds_toArray, List.set_cons_zero, List.set_cons_succ]
        refine wpB_done (by kernel_rfl) ?_ _
        obtain ⟨wm, hdn⟩ : ∃ q_, q_ = wn.drew := ⟨_, rfl⟩
        rw [← hdn]
        replace K := hid (show Chg (fun _ => False) w wm by rw [hdn]; exact K.out.drew)
        replace H := hid (show Rep w wm p b1 b2 b3 X r A n c (.slice none 0 0) by rw [hdn]; exact H.out.far ((Chg.refl (fun _ => False) wn).drew))
        replace BX := hid (show wm.heap[b]? = some (.cells #[.int .i64 m.kind, .int .i64 m.view, .int .i64 m.src, .int .i64 m.dst, .int .i64 m.op, .int .i64 m.commit, .int .i64 m.normal, .slice B k d] 41 (0, 0)) by rw [hdn]; exact blk_drew BX.out)
        replace HM := hid (show Ty.At entryK wm (fun j => R j ∧ j < w.heap.size) B k d m.log by rw [hdn]; exact HM.out.chg ((Chg.refl (fun _ => False) wn).drew) (fun _ _ h => h))
        replace BP := hid H.out.blk
        clear hdn hHeld
        clear X_1 X_2 hp2
        have H2 := hid H.out
        have K2 := hid (show Chg (fun j => M4 p b1 b2 b3 j ∨ (Value.slice none 0 0).ownBlock = some j) wm wm from Chg.refl _ _)
        go_wp2_with fail
        refine (sent_any H2.out).mono ?_
        rintro e' w9 ⟨rfl, h9, hv9, k9⟩
        have H9 := hid h9
        have HV9 := hid hv9
        have K9 := hid k9
        clear h9 hv9 k9
        go_wp2_with fail
        go_ret2
        have e1 : deliverR r m = (r, 0) := by rw [HDL.out]; unfold heardR; rw [if_neg (fun h => by rcases h with h | h <;> exact absurd (HKD.out.symm.trans h) (by decide))]; rw [if_neg (fun h => absurd (HKD.out.symm.trans h) (by decide))]; rw [if_neg (fun h => by rcases h with h | h <;> exact absurd (HKD.out.symm.trans h) (by decide))]; rw [if_pos HKD.out]; rw [if_neg (fun h => HP.out h.1)]
        rw [e1]
        refine ⟨_, rfl, ⟨_, _, _, H9.out⟩, HV9.out, no_own ?_⟩
        exact ((K.out.mono (S' := fun j => M4 p b1 b2 b3 j ∨ (Value.slice none 0 0).ownBlock = some j) (fun _ h _ => h.elim)).trans K2.out (fun j hj _ => hj)).trans K9.out (fun j hj _ => .inl (.inl hj))
    · have HKD := hid hk
      clear hk
      have X_K : wn.cell? ⟨b, 0, none⟩ = some (.int .i64 7) := by rw [← HKD.out]; exact (cellAt BX.out 0).trans rfl
      go_wp2_with fail
      clear X_K
      have X_1 : ∀ wx, Chg (fun _ => False) wn wx → wx.cell? ⟨b, 1, none⟩ = some (.int .i64 m.view) := fun wx hx => (cellAt (hx.blk BX.out (fun h => h)) 1).trans rfl
      have U_3 : ∀ wx, Chg (fun _ => False) wn wx → wx.cell? ⟨p, 3, none⟩ = some (.int .i64 r.s.view) := fun wx hx => (cellAt (hx.blk BP.out (fun h => h)) 3).trans rfl
      by_cases hv : m.view = r.s.view
      · have hv2 : (m.view == r.s.view) = true := by simp [hv]
        have HV := hid hv
        clear hv
        cases hch : r.ch
        · have U_8 : ∀ wx, Chg (fun _ => False) wn wx → wx.cell? ⟨p, 8, none⟩ = some (.bool false) := fun wx hx => by rw [← hch]; exact (cellAt (hx.blk BP.out (fun h => h)) 8).trans rfl
          have HCH := hid hch
          clear hch
          refine wpB_start (fun wx : World => Chg (fun _ => False) wn wx) (by kernel_rfl) ?_
          have hHeld : (fun wx : World => Chg (fun _ => False) wn wx) _ := (Chg.refl (fun _ => False) wn).drew
          -- 0: t98 := fieldAddr 41 t3 1 : 0
          refine wpB_take (i := 0) (v := ?_) (get_of_drop rfl) (by kernel_rfl) (by kernel_rfl) (by kernel_rfl) (by kernel_rfl) (fun _ _ _ h => h) (Or.inl ⟨by rfl, ?_⟩) hHeld ?_
          rotate_left
          · (intro w hSw; (try dsimp only at hSw); go_simp <;> with_reducible rfl)
          try simp only [Act.put, List.setIfInBounds_toArray, List.set_cons_zero, List.set_cons_succ]
          -- 1: t99 := load 3 t98 : 3
          refine wpB_take (i := 1) (v := ?_) (get_of_drop rfl) (by kernel_rfl) (by kernel_rfl) (by kernel_rfl) (by kernel_rfl) (fun _ _ _ h => h) (Or.inl ⟨by rfl, ?_⟩) hHeld ?_
          rotate_left
          · (intro w hSw; (try dsimp only at hSw); go_simp <;> with_reducible rfl)
          try simp only [Act.put, List.setIfInBounds_toArray, List.set_cons_zero, List.set_cons_succ]
          -- 2: t100 := move t0 : 30
          refine wpB_take (i := 2) (v := ?_) (get_of_drop rfl) (by kernel_rfl) (by kernel_rfl) (by kernel_rfl) (by kernel_rfl) (fun _ _ _ h => h) (Or.inl ⟨by rfl, ?_⟩) hHeld ?_
          rotate_left
          · (intro w hSw; (try dsimp only at hSw); go_simp <;> with_reducible rfl)
          try simp only [Act.put, List.setIfInBounds_toArray, List.set_cons_zero, List.set_cons_succ]
          -- 3: t101 := nilCheck t100 : 0
          refine wpB_take (i := 3) (v := ?_) (get_of_drop rfl) (by kernel_rfl) (by kernel_rfl) (by kernel_rfl) (by kernel_rfl) (fun _ _ _ h => h) (Or.inl ⟨by rfl, ?_⟩) hHeld ?_
          rotate_left
          · (intro w hSw; (try dsimp only at hSw); go_simp <;> with_reducible rfl)
          try simp only [Act.put, List.setIfInBounds_toArray, List.set_cons_zero, List.set_cons_succ]
          -- 4: t102 := fieldAddr 100 t101 1 : 0
          refine wpB_take (i := 4) (v := ?_) (get_of_drop rfl) (by kernel_rfl) (by kernel_rfl) (by kernel_rfl) (by kernel_rfl) (fun _ _ _ h => h) (Or.inl ⟨by rfl, ?_⟩) hHeld ?_
          rotate_left
          · (intro w hSw; (try dsimp only at hSw); go_simp <;> with_reducible rfl)
          try simp only [Act.put, List.setIfInBounds_toArray, List.set_cons_zero, List.set_cons_succ]
          -- 5: t103 := fieldAddr 26 t102 0 : 0
          refine wpB_take (i := 5) (v := ?_) (get_of_drop rfl) (by kernel_rfl) (by kernel_rfl) (by kernel_rfl) (by kernel_rfl) (fun _ _ _ h => h) (Or.inl ⟨by rfl, ?_⟩) hHeld ?_
          rotate_left
          · (intro w hSw; (try dsimp only at hSw); go_simp <;> with_reducible rfl)
          try simp only [Act.put, List.setIfInBounds_toArray, List.set_cons_zero, List.set_cons_succ]
          -- 6: t104 := load 3 t103 : 3
          refine wpB_take (i := 6) (v := ?_) (get_of_drop rfl) (by kernel_rfl) (by kernel_rfl) (by kernel_rfl) (by kernel_rfl) (fun _ _ _ h => h) (Or.inl ⟨by rfl, ?_⟩) hHeld ?_
          rotate_left
          · (intro w hSw; (try dsimp only at hSw); go_simp <;> with_reducible rfl)
          try simp only [Act.put, List.setIfInBounds_toArray, List.set_cons_zero, List.set_cons_succ]
          -- 7: t105 := binOp BinOp.eql 3 t99 t104 3 : 4
          refine wpB_take (i := 7) (v := ?_) (get_of_drop rfl) (by kernel_rfl) (by kernel_rfl) (by kernel_rfl) (by kernel_rfl) (fun _ _ _ h => h) (Or.inl ⟨by rfl, ?_⟩) hHeld ?_
          rotate_left
          · (intro w hSw; (try dsimp only at hSw); go_simp <;> with_reducible rfl)
          try simp only [Act.put, List.setIfInBounds_toArray, List.set_cons_zero, List.set_cons_succ]
          -- 8: t106 := move t105 : 4
          refine wpB_take (i := 8) (v := ?_) (get_of_drop rfl) (by kernel_rfl) (by kernel_rfl) (by kernel_rfl) (by kernel_rfl) (fun _ _ _ h => h) (Or.inl ⟨by rfl, ?_⟩) hHeld ?_
          rotate_left
          · (intro w hSw; (try dsimp only at hSw); go_simp <;> with_reducible rfl)
          try simp only [Act.put, List.setIfInBounds_toArray, List.set_cons_zero, List.set_cons_succ]
          -- 9: t107 := move t0 : 30   [if ⟨8, true⟩]
          refine wpB_take (i := 9) (v := ?_) (get_of_drop rfl) (by kernel_rfl) (by kernel_rfl) (by kernel_rfl) (by kernel_rfl) (fun _ _ _ h => h) (Or.inl ⟨by rfl, ?_⟩) hHeld ?_
          rotate_left
          · (intro w hSw; (try dsimp only at hSw); go_simp <;> with_reducible rfl)
          try simp only [Act.put, List.setIfInBounds_toArray, List.set_cons_zero, List.set_cons_succ]
          -- 10: t108 := nilCheck t107 : 0   [if ⟨8, true⟩]
          refine wpB_take (i := 10) (v := ?_) (get_of_drop rfl) (by kernel_rfl) (by kernel_rfl) (by kernel_rfl) (by kernel_rfl) (fun _ _ _ h => h) (Or.inl ⟨by rfl, ?_⟩) hHeld ?_
          rotate_left
          · (intro w hSw; (try dsimp only at hSw); go_simp <;> with_reducible rfl)
          try simp only [Act.put, List.setIfInBounds_toArray, List.set_cons_zero, List.set_cons_succ]
          -- 11: t109 := fieldAddr 100 t108 2 : 0   [if ⟨8, true⟩]
          refine wpB_take (i := 11) (v := ?_) (get_of_drop rfl) (by kernel_rfl) (by kernel_rfl) (by kernel_rfl) (by kernel_rfl) (fun _ _ _ h => h) (Or.inl ⟨by rfl, ?_⟩) hHeld ?_
          rotate_left
          · (intro w hSw; (try dsimp only at hSw); go_simp <;> with_reducible rfl)
          try simp only [Act.put, List.setIfInBounds_toArray, List.set_cons_zero, List.set_cons_succ]
          -- 12: t110 := load 4 t109 : 4   [if ⟨8, true⟩]
          refine wpB_take (i := 12) (v := ?_) (get_of_drop rfl) (by kernel_rfl) (by kernel_rfl) (by kernel_rfl) (by kernel_rfl) (fun _ _ _ h => h) (Or.inl ⟨by rfl, ?_⟩) hHeld ?_
          rotate_left
          · (intro w hSw; (try dsimp only at hSw); go_simp <;> with_reducible rfl)
          try simp only [Act.put, List.setIfInBounds_toArray, List.set_cons_zero, List.set_cons_succ]
          -- 13: t111 := unOp UnOp.not 4 t110 : 4   [if ⟨8, true⟩]
          refine wpB_take (i := 13) (v := ?_) (get_of_drop rfl) (by kernel_rfl) (by kernel_rfl) (by kernel_rfl) (by kernel_rfl) (fun _ _ _ h => h) (Or.inl ⟨by rfl, ?_⟩) hHeld ?_
          rotate_left
          · (intro w hSw; (try dsimp only at hSw); go_simp <;> with_reducible rfl)
          try simp only [Act.put, List.setIfInBounds_toArray, List.set_cons_zero, List.set_cons_succ]
          -- 14: t112 := pick t106 t111 #false : 4
          refine wpB_take (i := 14) (v := ?_) (get_of_drop rfl) (by kernel_rfl) (by kernel_rfl) (by kernel_rfl) (by kernel_rfl) (fun _ _ _ h => h) (Or.inl ⟨by rfl, ?_⟩) hHeld ?_
          rotate_left
          · (intro w hSw; (try dsimp only at hSw); go_simp <;> with_reducible rfl)
          try simp only [Act.put, List.setIfInBounds_toArray, List.set_cons_zero, List.set_cons_succ]
          refine wpB_done (by kernel_rfl) ?_ _
          obtain ⟨wm, hdn⟩ : ∃ q_, q_ = wn.drew := ⟨_, rfl⟩
          rw [← hdn]
          replace K := hid (show Chg (fun _ => False) w wm by rw [hdn]; exact K.out.drew)
          replace H := hid (show Rep w wm p b1 b2 b3 X r A n c (.slice none 0 0) by rw [hdn]; exact H.out.far ((Chg.refl (fun _ => False) wn).drew))
          replace BX := hid (show wm.heap[b]? = some (.cells #[.int .i64 m.kind, .int .i64 m.view, .int .i64 m.src, .int .i64 m.dst, .int .i64 m.op, .int .i64 m.commit, .int .i64 m.normal, .slice B k d] 41 (0, 0)) by rw [hdn]; exact blk_drew BX.out)
          replace HM := hid (show Ty.At entryK wm (fun j => R j ∧ j < w.heap.size) B k d m.log by rw [hdn]; exact HM.out.chg ((Chg.refl (fun _ => False) wn).drew) (fun _ _ h => h))
          replace BP := hid H.out.blk
          clear hdn hHeld
          clear U_8 U_3 X_1 hv2
          have X_2 : ∀ wx, Chg (fun _ => False) wm wx → wx.cell? ⟨b, 2, none⟩ = some (.int .i64 m.src) := fun wx hx => (cellAt (hx.blk BX.out (fun h => h)) 2).trans rfl
          go_wp2_with fail
          refine wpB_start (fun wx : World => Chg (fun _ => False) wm wx) (by kernel_rfl) ?_
          have hHeld : (fun wx : World => Chg (fun _ => False) wm wx) _ := (Chg.refl (fun _ => False) wm).drew
          -- 0: t113 := move t0 : 30
          refine wpB_take (i := 0) (v := ?_) (get_of_drop rfl) (by kernel_rfl) (by kernel_rfl) (by kernel_rfl) (by kernel_rfl) (fun _ _ _ h => h) (Or.inl ⟨by rfl, ?_⟩) hHeld ?_
          rotate_left
          · (intro w hSw; (try dsimp only at hSw); go_simp <;> with_reducible rfl)
          try simp only [Act.put, List.setIfInBounds_toArray, List.set_cons_zero, List.set_cons_succ]
          -- 1: t114 := fieldAddr 41 t3 2 : 0
          refine wpB_take (i := 1) (v := ?_) (get_of_drop rfl) (by kernel_rfl) (by kernel_rfl) (by kernel_rfl) (by kernel_rfl) (fun _ _ _ h => h) (Or.inl ⟨by rfl, ?_⟩) hHeld ?_
          rotate_left
          · (intro w hSw; (try dsimp only at hSw); go_simp <;> with_reducible rfl)
          try simp only [Act.put, List.setIfInBounds_toArray, List.set_cons_zero, List.set_cons_succ]
          -- 2: t115 := load 3 t114 : 3
          refine wpB_take (i := 2) (v := ?_) (get_of_drop rfl) (by kernel_rfl) (by kernel_rfl) (by kernel_rfl) (by kernel_rfl) (fun _ _ _ h => h) (Or.inl ⟨by rfl, ?_⟩) hHeld ?_
          rotate_left
          · (intro w hSw; (try dsimp only at hSw); go_simp <;> with_reducible rfl)
          try simp only [Act.put, List.setIfInBounds_toArray, List.set_cons_zero, List.set_cons_succ]
          -- 3: t116 := move t0 : 30
          refine wpB_take (i := 3) (v := ?_) (get_of_drop rfl) (by kernel_rfl) (by kernel_rfl) (by kernel_rfl) (by kernel_rfl) (fun _ _ _ h => h) (Or.inl ⟨by rfl, ?_⟩) hHeld ?_
          rotate_left
          · (intro w hSw; (try dsimp only at hSw); go_simp <;> with_reducible rfl)
          try simp only [Act.put, List.setIfInBounds_toArray, List.set_cons_zero, List.set_cons_succ]
          -- 4: t117 := CALL fn54(t116, #i64:8) : 41
          refine wpB_act (i := 4) (by kernel_rfl) (get_of_drop rfl) (fun K hK => ?_)
          go_simp
          refine (told_any (H.out.far hHeld) HN.out).mono ?_
          rintro e' wt ⟨rfl, ht⟩
          have HTW := hid (show Chg (fun _ => False) wm wt from hHeld.trans ht (fun _ h _ => h))
          clear ht
          refine hK.out _ _ ?_ (fun hHeld2 => ?_)
          · first | assumption | exact HTW.out
          clear hHeld hK K
          have hHeld := hHeld2
          clear hHeld2
          try simp only [Act.put, List.setIfInBounds_toArray, List.set_cons_zero, List.set_cons_succ]
          -- 5: t118 := CALL fn53(t113, t115, t117) : 0 (BARRIER)
          refine wpB_bar (i := 5) (by kernel_rfl) (get_of_drop rfl) (by kernel_rfl) (fun K hK => ?_)
          go_simp
          refine (send_any (m := ⟨8, 0, 0, 0, (n : Int), r.s.commit, 0, r.s.log⟩) (H.out.far HTW.out) ((H.out.log).chg HTW.out (fun _ _ h => h)) (by have := HN.out; omega) (fits_right HST.out.2.2.2.2.2) ⟨show NumW 8 by decide, numW_of (by have := HN.out; show _ ≤ (n : Int) ∧ (n : Int) ≤ _; omega), numW_of (by have := HST.out; show _ ≤ r.s.commit ∧ r.s.commit ≤ _; omega), show NumW 0 by decide⟩ ⟨numW_of (by have := HST.out; omega), numW_of (by have := HOK.out.cfg; omega), numW_of (by have := (msgR_num HMR.out).2.2.2.1; omega)⟩ (by rw [HO.out]; decide)).mono ?_
          rintro e' we ⟨O', rfl, he, hoe, ke⟩
          have H2 := hid he
          have KE := hid ke
          clear he hoe ke
          refine hK.out _ _ (fun _ : World => True) ?_
          clear hHeld hK K
          have hHeld := trivial
          try simp only [Act.put, List.setIfInBounds_toArray, List.set_cons_zero, List.set_cons_succ]
          refine wpB_done (by kernel_rfl) ?_ _
          clear X_2 hHeld
          have K2 := hid (show Chg (fun j => M4 p b1 b2 b3 j ∨ (Value.slice none 0 0).ownBlock = some j) wm we from (HTW.out.mono (S' := fun j => M4 p b1 b2 b3 j ∨ (Value.slice none 0 0).ownBlock = some j) (fun _ h _ => h.elim)).trans KE.out (fun j hj _ => by rcases hj with h | h; exact .inl (.inl h); exact .inr h))
          go_wp2_with fail
          refine (sent_any H2.out).mono ?_
          rintro e' w9 ⟨rfl, h9, hv9, k9⟩
          have H9 := hid h9
          have HV9 := hid hv9
          have K9 := hid k9
          clear h9 hv9 k9
          go_wp2_with fail
          go_ret2
          have e1 : deliverR r m = (sendR r m.src ⟨8, 0, 0, 0, (n : Int), r.s.commit, 0, r.s.log⟩, 0) := by rw [HDL.out]; unfold heardR; rw [if_neg (fun h => by rcases h with h | h <;> exact absurd (HKD.out.symm.trans h) (by decide))]; rw [if_neg (fun h => absurd (HKD.out.symm.trans h) (by decide))]; rw [if_neg (fun h => by rcases h with h | h <;> exact absurd (HKD.out.symm.trans h) (by decide))]; rw [if_neg (fun h => absurd (HKD.out.symm.trans h) (by decide))]; rw [if_pos HKD.out]; rw [if_pos ⟨HV.out, HCH.out⟩]; unfold toldR; rw [L1.out]
          rw [e1]
          refine ⟨_, rfl, ⟨_, _, _, H9.out⟩, HV9.out, no_own ?_⟩
          exact ((K.out.mono (S' := fun j => M4 p b1 b2 b3 j ∨ (Value.slice none 0 0).ownBlock = some j) (fun _ h _ => h.elim)).trans K2.out (fun j hj _ => hj)).trans K9.out (fun j hj _ => .inl (.inl hj))
        · have U_8 : ∀ wx, Chg (fun _ => False) wn wx → wx.cell? ⟨p, 8, none⟩ = some (.bool true) := fun wx hx => by rw [← hch]; exact (cellAt (hx.blk BP.out (fun h => h)) 8).trans rfl
          have HCH := hid hch
          clear hch
          refine wpB_start (fun wx : World => Chg (fun _ => False) wn wx) (by kernel_rfl) ?_
          have hHeld : (fun wx : World => Chg (fun _ => False) wn wx) _ := (Chg.refl (fun _ => False) wn).drew
          -- 0: t98 := fieldAddr 41 t3 1 : 0
          refine wpB_take (i := 0) (v := ?_) (get_of_drop rfl) (by kernel_rfl) (by kernel_rfl) (by kernel_rfl) (by kernel_rfl) (fun _ _ _ h => h) (Or.inl ⟨by rfl, ?_⟩) hHeld ?_
          rotate_left
          · (intro w hSw; (try dsimp only at hSw); go_simp <;> with_reducible rfl)
          try simp only [Act.put, List.setIfInBounds_toArray, List.set_cons_zero, List.set_cons_succ]
          -- 1: t99 := load 3 t98 : 3
          refine wpB_take (i := 1) (v := ?_) (get_of_drop rfl) (by kernel_rfl) (by kernel_rfl) (by kernel_rfl) (by kernel_rfl) (fun _ _ _ h => h) (Or.inl ⟨by rfl, ?_⟩) hHeld ?_
          rotate_left
          · (intro w hSw; (try dsimp only at hSw); go_simp <;> with_reducible rfl)
          try simp only [Act.put, List.setIfInBounds_toArray, List.set_cons_zero, List.set_cons_succ]
          -- 2: t100 := move t0 : 30
          refine wpB_take (i := 2) (v := ?_) (get_of_drop rfl) (by kernel_rfl) (by kernel_rfl) (by kernel_rfl) (by kernel_rfl) (fun _ _ _ h => h) (Or.inl ⟨by rfl, ?_⟩) hHeld ?_
          rotate_left
          · (intro w hSw; (try dsimp only at hSw); go_simp <;> with_reducible rfl)
          try simp only [Act.put, List.setIfInBounds_toArray, List.set_cons_zero, List.set_cons_succ]
          -- 3: t101 := nilCheck t100 : 0
          refine wpB_take (i := 3) (v := ?_) (get_of_drop rfl) (by kernel_rfl) (by kernel_rfl) (by kernel_rfl) (by kernel_rfl) (fun _ _ _ h => h) (Or.inl ⟨by rfl, ?_⟩) hHeld ?_
          rotate_left
          · (intro w hSw; (try dsimp only at hSw); go_simp <;> with_reducible rfl)
          try simp only [Act.put, List.setIfInBounds_toArray, List.set_cons_zero, List.set_cons_succ]
          -- 4: t102 := fieldAddr 100 t101 1 : 0
          refine wpB_take (i := 4) (v := ?_) (get_of_drop rfl) (by kernel_rfl) (by kernel_rfl) (by kernel_rfl) (by kernel_rfl) (fun _ _ _ h => h) (Or.inl ⟨by rfl, ?_⟩) hHeld ?_
          rotate_left
          · (intro w hSw; (try dsimp only at hSw); go_simp <;> with_reducible rfl)
          try simp only [Act.put, List.setIfInBounds_toArray, List.set_cons_zero, List.set_cons_succ]
          -- 5: t103 := fieldAddr 26 t102 0 : 0
          refine wpB_take (i := 5) (v := ?_) (get_of_drop rfl) (by kernel_rfl) (by kernel_rfl) (by kernel_rfl) (by kernel_rfl) (fun _ _ _ h => h) (Or.inl ⟨by rfl, ?_⟩) hHeld ?_
          rotate_left
          · (intro w hSw; (try dsimp only at hSw); go_simp <;> with_reducible rfl)
          try simp only [Act.put, List.setIfInBounds_toArray, List.set_cons_zero, List.set_cons_succ]
          -- 6: t104 := load 3 t103 : 3
          refine wpB_take (i := 6) (v := ?_) (get_of_drop rfl) (by kernel_rfl) (by kernel_rfl) (by kernel_rfl) (by kernel_rfl) (fun _ _ _ h => h) (Or.inl ⟨by rfl, ?_⟩) hHeld ?_
          rotate_left
          · (intro w hSw; (try dsimp only at hSw); go_simp <;> with_reducible rfl)
          try simp only [Act.put, List.setIfInBounds_toArray, List.set_cons_zero, List.set_cons_succ]
          -- 7: t105 := binOp BinOp.eql 3 t99 t104 3 : 4
          refine wpB_take (i := 7) (v := ?_) (get_of_drop rfl) (by kernel_rfl) (by kernel_rfl) (by kernel_rfl) (by kernel_rfl) (fun _ _ _ h => h) (Or.inl ⟨by rfl, ?_⟩) hHeld ?_
          rotate_left
          · (intro w hSw; (try dsimp only at hSw); go_simp <;> with_reducible rfl)
          try simp only [Act.put, List.setIfInBounds_toArray, List.set_cons_zero, List.set_cons_succ]
          -- 8: t106 := move t105 : 4
          refine wpB_take (i := 8) (v := ?_) (get_of_drop rfl) (by kernel_rfl) (by kernel_rfl) (by kernel_rfl) (by kernel_rfl) (fun _ _ _ h => h) (Or.inl ⟨by rfl, ?_⟩) hHeld ?_
          rotate_left
          · (intro w hSw; (try dsimp only at hSw); go_simp <;> with_reducible rfl)
          try simp only [Act.put, List.setIfInBounds_toArray, List.set_cons_zero, List.set_cons_succ]
          -- 9: t107 := move t0 : 30   [if ⟨8, true⟩]
          refine wpB_take (i := 9) (v := ?_) (get_of_drop rfl) (by kernel_rfl) (by kernel_rfl) (by kernel_rfl) (by kernel_rfl) (fun _ _ _ h => h) (Or.inl ⟨by rfl, ?_⟩) hHeld ?_
          rotate_left
          · (intro w hSw; (try dsimp only at hSw); go_simp <;> with_reducible rfl)
          try simp only [Act.put, List.setIfInBounds_toArray, List.set_cons_zero, List.set_cons_succ]
          -- 10: t108 := nilCheck t107 : 0   [if ⟨8, true⟩]
          refine wpB_take (i := 10) (v := ?_) (get_of_drop rfl) (by kernel_rfl) (by kernel_rfl) (by kernel_rfl) (by kernel_rfl) (fun _ _ _ h => h) (Or.inl ⟨by rfl, ?_⟩) hHeld ?_
          rotate_left
          · (intro w hSw; (try dsimp only at hSw); go_simp <;> with_reducible rfl)
          try simp only [Act.put, List.setIfInBounds_toArray, List.set_cons_zero, List.set_cons_succ]
          -- 11: t109 := fieldAddr 100 t108 2 : 0   [if ⟨8, true⟩]
          refine wpB_take (i := 11) (v := ?_) (get_of_drop rfl) (by kernel_rfl) (by kernel_rfl) (by kernel_rfl) (by kernel_rfl) (fun _ _ _ h => h) (Or.inl ⟨by rfl, ?_⟩) hHeld ?_
          rotate_left
          · (intro w hSw; (try dsimp only at hSw); go_simp <;> with_reducible rfl)
          try simp only [Act.put, List.setIfInBounds_toArray, List.set_cons_zero, List.set_cons_succ]
          -- 12: t110 := load 4 t109 : 4   [if ⟨8, true⟩]
          refine wpB_take (i := 12) (v := ?_) (get_of_drop rfl) (by kernel_rfl) (by kernel_rfl) (by kernel_rfl) (by kernel_rfl) (fun _ _ _ h => h) (Or.inl ⟨by rfl, ?_⟩) hHeld ?_
          rotate_left
          · (intro w hSw; (try dsimp only at hSw); go_simp <;> with_reducible rfl)
          try simp only [Act.put, List.setIfInBounds_toArray, List.set_cons_zero, List.set_cons_succ]
          -- 13: t111 := unOp UnOp.not 4 t110 : 4   [if ⟨8, true⟩]
          refine wpB_take (i := 13) (v := ?_) (get_of_drop rfl) (by kernel_rfl) (by kernel_rfl) (by kernel_rfl) (by kernel_rfl) (fun _ _ _ h => h) (Or.inl ⟨by rfl, ?_⟩) hHeld ?_
          rotate_left
          · (intro w hSw; (try dsimp only at hSw); go_simp <;> with_reducible rfl)
          try simp only [Act.put, List.setIfInBounds_toArray, List.set_cons_zero, List.set_cons_succ]
          -- 14: t112 := pick t106 t111 #false : 4
          refine wpB_take (i := 14) (v := ?_) (get_of_drop rfl) (by kernel_rfl) (by kernel_rfl) (by kernel_rfl) (by kernel_rfl) (fun _ _ _ h => h) (Or.inl ⟨by rfl, ?_⟩) hHeld ?_
          rotate_left
          · (intro w hSw; (try dsimp only at hSw); go_simp <;> with_reducible rfl)
          try simp only [Act.put, List.setIfInBounds_toArray, List.set_cons_zero, List.set_cons_succ]
          refine wpB_done (by kernel_rfl) ?_ _
          obtain ⟨wm, hdn⟩ : ∃ q_, q_ = wn.drew := ⟨_, rfl⟩
          rw [← hdn]
          replace K := hid (show Chg (fun _ => False) w wm by rw [hdn]; exact K.out.drew)
          replace H := hid (show Rep w wm p b1 b2 b3 X r A n c (.slice none 0 0) by rw [hdn]; exact H.out.far ((Chg.refl (fun _ => False) wn).drew))
          replace BX := hid (show wm.heap[b]? = some (.cells #[.int .i64 m.kind, .int .i64 m.view, .int .i64 m.src, .int .i64 m.dst, .int .i64 m.op, .int .i64 m.commit, .int .i64 m.normal, .slice B k d] 41 (0, 0)) by rw [hdn]; exact blk_drew BX.out)
          replace HM := hid (show Ty.At entryK wm (fun j => R j ∧ j < w.heap.size) B k d m.log by rw [hdn]; exact HM.out.chg ((Chg.refl (fun _ => False) wn).drew) (fun _ _ h => h))
          replace BP := hid H.out.blk
          clear hdn hHeld
          clear U_8 U_3 X_1 hv2
          have H2 := hid H.out
          have K2 := hid (show Chg (fun j => M4 p b1 b2 b3 j ∨ (Value.slice none 0 0).ownBlock = some j) wm wm from Chg.refl _ _)
          go_wp2_with fail
          refine (sent_any H2.out).mono ?_
          rintro e' w9 ⟨rfl, h9, hv9, k9⟩
          have H9 := hid h9
          have HV9 := hid hv9
          have K9 := hid k9
          clear h9 hv9 k9
          go_wp2_with fail
          go_ret2
          have e1 : deliverR r m = (r, 0) := by rw [HDL.out]; unfold heardR; rw [if_neg (fun h => by rcases h with h | h <;> exact absurd (HKD.out.symm.trans h) (by decide))]; rw [if_neg (fun h => absurd (HKD.out.symm.trans h) (by decide))]; rw [if_neg (fun h => by rcases h with h | h <;> exact absurd (HKD.out.symm.trans h) (by decide))]; rw [if_neg (fun h => absurd (HKD.out.symm.trans h) (by decide))]; rw [if_pos HKD.out]; rw [if_neg (fun h => by rw [HCH.out] at h; exact absurd h.2 (by decide))]
          rw [e1]
          refine ⟨_, rfl, ⟨_, _, _, H9.out⟩, HV9.out, no_own ?_⟩
          exact ((K.out.mono (S' := fun j => M4 p b1 b2 b3 j ∨ (Value.slice none 0 0).ownBlock = some j) (fun _ h _ => h.elim)).trans K2.out (fun j hj _ => hj)).trans K9.out (fun j hj _ => .inl (.inl hj))
      · have hv2 : (m.view == r.s.view) = false := by simp [hv]
        have HV := hid (show ¬ m.view = r.s.view from hv)
        clear hv
        refine wpB_start (fun wx : World => Chg (fun _ => False) wn wx) (by kernel_rfl) ?_
        have hHeld : (fun wx : World => Chg (fun _ => False) wn wx) _ := (Chg.refl (fun _ => False) wn).drew
        -- 0: t98 := fieldAddr 41 t3 1 : 0
        refine wpB_take (i := 0) (v := ?_) (get_of_drop rfl) (by kernel_rfl) (by kernel_rfl) (by kernel_rfl) (by kernel_rfl) (fun _ _ _ h => h) (Or.inl ⟨by rfl, ?_⟩) hHeld ?_
        rotate_left
        · (intro w hSw; (try dsimp only at hSw); go_simp <;> with_reducible rfl)
        try simp only [Act.put, List.setIfInBounds_toArray, List.set_cons_zero, List.set_cons_succ]
        -- 1: t99 := load 3 t98 : 3
        refine wpB_take (i := 1) (v := ?_) (get_of_drop rfl) (by kernel_rfl) (by kernel_rfl) (by kernel_rfl) (by kernel_rfl) (fun _ _ _ h => h) (Or.inl ⟨by rfl, ?_⟩) hHeld ?_
        rotate_left
        · (intro w hSw; (try dsimp only at hSw); go_simp <;> with_reducible rfl)
        try simp only [Act.put, List.setIfInBounds_toArray, List.set_cons_zero, List.set_cons_succ]
        -- 2: t100 := move t0 : 30
        refine wpB_take (i := 2) (v := ?_) (get_of_drop rfl) (by kernel_rfl) (by kernel_rfl) (by kernel_rfl) (by kernel_rfl) (fun _ _ _ h => h) (Or.inl ⟨by rfl, ?_⟩) hHeld ?_
        rotate_left
        · (intro w hSw; (try dsimp only at hSw); go_simp <;> with_reducible rfl)
        try simp only [Act.put, List.setIfInBounds_toArray, List.set_cons_zero, List.set_cons_succ]
        -- 3: t101 := nilCheck t100 : 0
        refine wpB_take (i := 3) (v := ?_) (get_of_drop rfl) (by kernel_rfl) (by kernel_rfl) (by kernel_rfl) (by kernel_rfl) (fun _ _ _ h => h) (Or.inl ⟨by rfl, ?_⟩) hHeld ?_
        rotate_left
        · (intro w hSw; (try dsimp only at hSw); go_simp <;> with_reducible rfl)
        try simp only [Act.put, List.setIfInBounds_toArray, List.set_cons_zero, List.set_cons_succ]
        -- 4: t102 := fieldAddr 100 t101 1 : 0
        refine wpB_take (i := 4) (v := ?_) (get_of_drop rfl) (by kernel_rfl) (by kernel_rfl) (by kernel_rfl) (by kernel_rfl) (fun _ _ _ h => h) (Or.inl ⟨by rfl, ?_⟩) hHeld ?_
        rotate_left
        · (intro w hSw; (try dsimp only at hSw); go_simp <;> with_reducible rfl)
        try simp only [Act.put, List.setIfInBounds_toArray, List.set_cons_zero, List.set_cons_succ]
        -- 5: t103 := fieldAddr 26 t102 0 : 0
        refine wpB_take (i := 5) (v := ?_) (get_of_drop rfl) (by kernel_rfl) (by kernel_rfl) (by kernel_rfl) (by kernel_rfl) (fun _ _ _ h => h) (Or.inl ⟨by rfl, ?_⟩) hHeld ?_
        rotate_left
        · (intro w hSw; (try dsimp only at hSw); go_simp <;> with_reducible rfl)
        try simp only [Act.put, List.setIfInBounds_toArray, List.set_cons_zero, List.set_cons_succ]
        -- 6: t104 := load 3 t103 : 3
        refine wpB_take (i := 6) (v := ?_) (get_of_drop rfl) (by kernel_rfl) (by kernel_rfl) (by kernel_rfl) (by kernel_rfl) (fun _ _ _ h => h) (Or.inl ⟨by rfl, ?_⟩) hHeld ?_
        rotate_left
        · (intro w hSw; (try dsimp only at hSw); go_simp <;> with_reducible rfl)
        try simp only [Act.put, List.setIfInBounds_toArray, List.set_cons_zero, List.set_cons_succ]
        -- 7: t105 := binOp BinOp.eql 3 t99 t104 3 : 4
        refine wpB_take (i := 7) (v := ?_) (get_of_drop rfl) (by kernel_rfl) (by kernel_rfl) (by kernel_rfl) (by kernel_rfl) (fun _ _ _ h => h) (Or.inl ⟨by rfl, ?_⟩) hHeld ?_
        rotate_left
        · (intro w hSw; (try dsimp only at hSw); go_simp <;> with_reducible rfl)
        try simp only [Act.put, List.setIfInBounds_toArray, List.set_cons_zero, List.set_cons_succ]
        -- 8: t106 := move t105 : 4
        refine wpB_take (i := 8) (v := ?_) (get_of_drop rfl) (by kernel_rfl) (by kernel_rfl) (by kernel_rfl) (by kernel_rfl) (fun _ _ _ h => h) (Or.inl ⟨by rfl, ?_⟩) hHeld ?_
        rotate_left
        · (intro w hSw; (try dsimp only at hSw); go_simp <;> with_reducible rfl)
        try simp only [Act.put, List.setIfInBounds_toArray, List.set_cons_zero, List.set_cons_succ]
        -- 9: t107 := move t0 : 30   [if ⟨8, true⟩]
        refine wpB_take (i := 9) (v := undef) (get_of_drop rfl) (by kernel_rfl) (by kernel_rfl) (by kernel_rfl) (by kernel_rfl) (fun _ _ _ h => h) (Or.inr ⟨by rfl, rfl⟩) hHeld ?_
        try simp only [Act.put, List.setIfInBounds_toArray, List.set_cons_zero, List.set_cons_succ]
        -- 10: t108 := nilCheck t107 : 0   [if ⟨8, true⟩]
        refine wpB_take (i := 10) (v := undef) (get_of_drop rfl) (by kernel_rfl) (by kernel_rfl) (by kernel_rfl) (by kernel_rfl) (fun _ _ _ h => h) (Or.inr ⟨by rfl, rfl⟩) hHeld ?_
        try simp only [Act.put, List.setIfInBounds_toArray, List.set_cons_zero, List.set_cons_succ]
        -- 11: t109 := fieldAddr 100 t108 2 : 0   [if ⟨8, true⟩]
        refine wpB_take (i := 11) (v := undef) (get_of_drop rfl) (by kernel_rfl) (by kernel_rfl) (by kernel_rfl) (by kernel_rfl) (fun _ _ _ h => h) (Or.inr ⟨by rfl, rfl⟩) hHeld ?_
        try simp only [Act.put, List.setIfInBounds_toArray, List.set_cons_zero, List.set_cons_succ]
        -- 12: t110 := load 4 t109 : 4   [if ⟨8, true⟩]
        refine wpB_take (i := 12) (v := undef) (get_of_drop rfl) (by kernel_rfl) (by kernel_rfl) (by kernel_rfl) (by kernel_rfl) (fun _ _ _ h => h) (Or.inr ⟨by rfl, rfl⟩) hHeld ?_
        try simp only [Act.put, List.setIfInBounds_toArray, List.set_cons_zero, List.set_cons_succ]
        -- 13: t111 := unOp UnOp.not 4 t110 : 4   [if ⟨8, true⟩]
        refine wpB_take (i := 13) (v := undef) (get_of_drop rfl) (by kernel_rfl) (by kernel_rfl) (by kernel_rfl) (by kernel_rfl) (fun _ _ _ h => h) (Or.inr ⟨by rfl, rfl⟩) hHeld ?_
        try simp only [Act.put, List.setIfInBounds_toArray, List.set_cons_zero, List.set_cons_succ]
        -- 14: t112 := pick t106 t111 #false : 4
        refine wpB_take (i := 14) (v := ?_) (get_of_drop rfl) (by kernel_rfl) (by kernel_rfl) (by kernel_rfl) (by kernel_rfl) (fun _ _ _ h => h) (Or.inl ⟨by rfl, ?_⟩) hHeld ?_
        rotate_left
        · (intro w hSw; (try dsimp only at hSw); go_simp <;> with_reducible rfl)
        try simp only [Act.put, List.setIfInBounds_toArray, List.set_cons_zero, List.set_cons_succ]
        refine wpB_done (by kernel_rfl) ?_ _
        obtain ⟨wm, hdn⟩ : ∃ q_, q_ = wn.drew := ⟨_, rfl⟩
        rw [← hdn]
        replace K := hid (show Chg (fun _ => False) w wm by rw [hdn]; exact K.out.drew)
        replace H := hid (show Rep w wm p b1 b2 b3 X r A n c (.slice none 0 0) by rw [hdn]; exact H.out.far ((Chg.refl (fun _ => False) wn).drew))
        replace BX := hid (show wm.heap[b]? = some (.cells #[.int .i64 m.kind, .int .i64 m.view, .int .i64 m.src, .int .i64 m.dst, .int .i64 m.op, .int .i64 m.commit, .int .i64 m.normal, .slice B k d] 41 (0, 0)) by rw [hdn]; exact blk_drew BX.out)
        replace HM := hid (show Ty.At entryK wm (fun j => R j ∧ j < w.heap.size) B k d m.log by rw [hdn]; exact HM.out.chg ((Chg.refl (fun _ => False) wn).drew) (fun _ _ h => h))
        replace BP := hid H.out.blk
        clear hdn hHeld
        clear U_3 X_1 hv2
        have H2 := hid H.out
        have K2 := hid (show Chg (fun j => M4 p b1 b2 b3 j ∨ (Value.slice none 0 0).ownBlock = some j) wm wm from Chg.refl _ _)
        go_wp2_with fail
        refine (sent_any H2.out).mono ?_
        rintro e' w9 ⟨rfl, h9, hv9, k9⟩
        have H9 := hid h9
        have HV9 := hid hv9
        have K9 := hid k9
        clear h9 hv9 k9
        go_wp2_with fail
        go_ret2
        have e1 : deliverR r m = (r, 0) := by rw [HDL.out]; unfold heardR; rw [if_neg (fun h => by rcases h with h | h <;> exact absurd (HKD.out.symm.trans h) (by decide))]; rw [if_neg (fun h => absurd (HKD.out.symm.trans h) (by decide))]; rw [if_neg (fun h => by rcases h with h | h <;> exact absurd (HKD.out.symm.trans h) (by decide))]; rw [if_neg (fun h => absurd (HKD.out.symm.trans h) (by decide))]; rw [if_pos HKD.out]; rw [if_neg (fun h => HV.out h.1)]
        rw [e1]
        refine ⟨_, rfl, ⟨_, _, _, H9.out⟩, HV9.out, no_own ?_⟩
        exact ((K.out.mono (S' := fun j => M4 p b1 b2 b3 j ∨ (Value.slice none 0 0).ownBlock = some j) (fun _ h _ => h.elim)).trans K2.out (fun j hj _ => hj)).trans K9.out (fun j hj _ => .inl (.inl hj))
    · have HKD := hid hk
      clear hk
      have X_K : wn.cell? ⟨b, 0, none⟩ = some (.int .i64 8) := by rw [← HKD.out]; exact (cellAt BX.out 0).trans rfl
      go_wp2_with fail
      clear X_K
      have X_1 : ∀ wx, Chg (fun _ => False) wn wx → wx.cell? ⟨b, 1, none⟩ = some (.int .i64 m.view) := fun wx hx => (cellAt (hx.blk BX.out (fun h => h)) 1).trans rfl
      have X_7 : ∀ wx, Chg (fun _ => False) wn wx → wx.cell? ⟨b, 7, none⟩ = some (.slice B k d) := fun wx hx => (cellAt (hx.blk BX.out (fun h => h)) 7).trans rfl
      have U_1 : ∀ wx, Chg (fun _ => False) wn wx → wx.cell? ⟨p, 1, none⟩ = some (.int .i64 r.id) := fun wx hx => (cellAt (hx.blk BP.out (fun h => h)) 1).trans rfl
      by_cases hp : primR r m.view = r.id
      · have hp2 : (primR r m.view != r.id) = false := by simp [hp]
        have HP := hid hp
        clear hp
        refine wpB_start (fun wx : World => Chg (fun _ => False) wn wx) (by kernel_rfl) ?_
        have hHeld : (fun wx : World => Chg (fun _ => False) wn wx) _ := (Chg.refl (fun _ => False) wn).drew
        -- 0: t121 := move t0 : 30
        refine wpB_take (i := 0) (v := ?_) (get_of_drop rfl) (by kernel_rfl) (by kernel_rfl) (by kernel_rfl) (by kernel_rfl) (fun _ _ _ h => h) (Or.inl ⟨by rfl, ?_⟩) hHeld ?_
        rotate_left
        · (intro w hSw; (try dsimp only at hSw); go_simp <;> with_reducible rfl)
        try simp only [Act.put, List.setIfInBounds_toArray, List.set_cons_zero, List.set_cons_succ]
        -- 1: t122 := fieldAddr 41 t3 1 : 0
        refine wpB_take (i := 1) (v := ?_) (get_of_drop rfl) (by kernel_rfl) (by kernel_rfl) (by kernel_rfl) (by kernel_rfl) (fun _ _ _ h => h) (Or.inl ⟨by rfl, ?_⟩) hHeld ?_
        rotate_left
        · (intro w hSw; (try dsimp only at hSw); go_simp <;> with_reducible rfl)
        try simp only [Act.put, List.setIfInBounds_toArray, List.set_cons_zero, List.set_cons_succ]
        -- 2: t123 := load 3 t122 : 3
        refine wpB_take (i := 2) (v := ?_) (get_of_drop rfl) (by kernel_rfl) (by kernel_rfl) (by kernel_rfl) (by kernel_rfl) (fun _ _ _ h => h) (Or.inl ⟨by rfl, ?_⟩) hHeld ?_
        rotate_left
        · (intro w hSw; (try dsimp only at hSw); go_simp <;> with_reducible rfl)
        try simp only [Act.put, List.setIfInBounds_toArray, List.set_cons_zero, List.set_cons_succ]
        -- 4: t125 := move t0 : 30
        refine wpB_take (i := 4) (v := ?_) (get_of_drop rfl) (by kernel_rfl) (by kernel_rfl) (by kernel_rfl) (by kernel_rfl) (fun _ _ _ h => h) (Or.inl ⟨by rfl, ?_⟩) hHeld ?_
        rotate_left
        · (intro w hSw; (try dsimp only at hSw); go_simp <;> with_reducible rfl)
        try simp only [Act.put, List.setIfInBounds_toArray, List.set_cons_zero, List.set_cons_succ]
        -- 5: t126 := nilCheck t125 : 0
        refine wpB_take (i := 5) (v := ?_) (get_of_drop rfl) (by kernel_rfl) (by kernel_rfl) (by kernel_rfl) (by kernel_rfl) (fun _ _ _ h => h) (Or.inl ⟨by rfl, ?_⟩) hHeld ?_
        rotate_left
        · (intro w hSw; (try dsimp only at hSw); go_simp <;> with_reducible rfl)
        try simp only [Act.put, List.setIfInBounds_toArray, List.set_cons_zero, List.set_cons_succ]
        -- 6: t127 := fieldAddr 100 t126 0 : 0
        refine wpB_take (i := 6) (v := ?_) (get_of_drop rfl) (by kernel_rfl) (by kernel_rfl) (by kernel_rfl) (by kernel_rfl) (fun _ _ _ h => h) (Or.inl ⟨by rfl, ?_⟩) hHeld ?_
        rotate_left
        · (intro w hSw; (try dsimp only at hSw); go_simp <;> with_reducible rfl)
        try simp only [Act.put, List.setIfInBounds_toArray, List.set_cons_zero, List.set_cons_succ]
        -- 7: t128 := fieldAddr 23 t127 1 : 0
        refine wpB_take (i := 7) (v := ?_) (get_of_drop rfl) (by kernel_rfl) (by kernel_rfl) (by kernel_rfl) (by kernel_rfl) (fun _ _ _ h => h) (Or.inl ⟨by rfl, ?_⟩) hHeld ?_
        rotate_left
        · (intro w hSw; (try dsimp only at hSw); go_simp <;> with_reducible rfl)
        try simp only [Act.put, List.setIfInBounds_toArray, List.set_cons_zero, List.set_cons_succ]
        -- 8: t129 := load 3 t128 : 3
        refine wpB_take (i := 8) (v := ?_) (get_of_drop rfl) (by kernel_rfl) (by kernel_rfl) (by kernel_rfl) (by kernel_rfl) (fun _ _ _ h => h) (Or.inl ⟨by rfl, ?_⟩) hHeld ?_
        rotate_left
        · (intro w hSw; (try dsimp only at hSw); go_simp <;> with_reducible rfl)
        try simp only [Act.put, List.setIfInBounds_toArray, List.set_cons_zero, List.set_cons_succ]
        -- 3: t124 := CALL fn48(t121, t123) : 3
        refine wpB_act (i := 3) (by kernel_rfl) (get_of_drop rfl) (fun K hK => ?_)
        go_simp
        refine (prim_any (H.out.far hHeld) HOK.out.cfg.1 (msgR_num HMR.out).2.1).mono ?_
        rintro e' wy ⟨rfl, rfl⟩
        refine hK.out _ _ ?_ (fun hHeld2 => ?_)
        · first | assumption | exact Chg.alloc hHeld _
        clear hHeld hK K
        have hHeld := hHeld2
        clear hHeld2
        try simp only [Act.put, List.setIfInBounds_toArray, List.set_cons_zero, List.set_cons_succ]
        -- 9: t130 := binOp BinOp.neq 3 t124 t129 3 : 4
        refine wpB_take (i := 9) (v := ?_) (get_of_drop rfl) (by kernel_rfl) (by kernel_rfl) (by kernel_rfl) (by kernel_rfl) (fun _ _ _ h => h) (Or.inl ⟨by rfl, ?_⟩) hHeld ?_
        rotate_left
        · (intro w hSw; (try dsimp only at hSw); go_simp <;> with_reducible rfl)
        try simp only [Act.put, List.setIfInBounds_toArray, List.set_cons_zero, List.set_cons_succ]
        -- 10: t131 := move t130 : 4
        refine wpB_take (i := 10) (v := ?_) (get_of_drop rfl) (by kernel_rfl) (by kernel_rfl) (by kernel_rfl) (by kernel_rfl) (fun _ _ _ h => h) (Or.inl ⟨by rfl, ?_⟩) hHeld ?_
        rotate_left
        · (intro w hSw; (try dsimp only at hSw); go_simp <;> with_reducible rfl)
        try simp only [Act.put, List.setIfInBounds_toArray, List.set_cons_zero, List.set_cons_succ]
        -- 11: t132 := move t6 : 4   [if ⟨10, true⟩]
        refine wpB_take (i := 11) (v := undef) (get_of_drop rfl) (by kernel_rfl) (by kernel_rfl) (by kernel_rfl) (by kernel_rfl) (fun _ _ _ h => h) (Or.inr ⟨by rfl, rfl⟩) hHeld ?_
        try simp only [Act.put, List.setIfInBounds_toArray, List.set_cons_zero, List.set_cons_succ]
        -- 12: t133 := move t132 : 4   [if ⟨10, true⟩]
        refine wpB_take (i := 12) (v := undef) (get_of_drop rfl) (by kernel_rfl) (by kernel_rfl) (by kernel_rfl) (by kernel_rfl) (fun _ _ _ h => h) (Or.inr ⟨by rfl, rfl⟩) hHeld ?_
        try simp only [Act.put, List.setIfInBounds_toArray, List.set_cons_zero, List.set_cons_succ]
        -- 13: t134 := move t0 : 30   [if ⟨12, false⟩]
        refine wpB_take (i := 13) (v := undef) (get_of_drop rfl) (by kernel_rfl) (by kernel_rfl) (by kernel_rfl) (by kernel_rfl) (fun _ _ _ h => h) (Or.inr ⟨by rfl, rfl⟩) hHeld ?_
        try simp only [Act.put, List.setIfInBounds_toArray, List.set_cons_zero, List.set_cons_succ]
        -- 14: t135 := fieldAddr 41 t3 7 : 0   [if ⟨12, false⟩]
        refine wpB_take (i := 14) (v := undef) (get_of_drop rfl) (by kernel_rfl) (by kernel_rfl) (by kernel_rfl) (by kernel_rfl) (fun _ _ _ h => h) (Or.inr ⟨by rfl, rfl⟩) hHeld ?_
        try simp only [Act.put, List.setIfInBounds_toArray, List.set_cons_zero, List.set_cons_succ]
        -- 15: t136 := load 24 t135 : 24   [if ⟨12, false⟩]
        refine wpB_take (i := 15) (v := undef) (get_of_drop rfl) (by kernel_rfl) (by kernel_rfl) (by kernel_rfl) (by kernel_rfl) (fun _ _ _ h => h) (Or.inr ⟨by rfl, rfl⟩) hHeld ?_
        try simp only [Act.put, List.setIfInBounds_toArray, List.set_cons_zero, List.set_cons_succ]
        -- 16: t137 := CALL fn55(t134, t136) : 4   [if ⟨12, false⟩]
        refine wpB_take (i := 16) (v := undef) (get_of_drop rfl) (by kernel_rfl) (by kernel_rfl) (by kernel_rfl) (by kernel_rfl) (fun _ _ _ h => h) (Or.inr ⟨by rfl, rfl⟩) hHeld ?_
        try simp only [Act.put, List.setIfInBounds_toArray, List.set_cons_zero, List.set_cons_succ]
        -- 17: t138 := pick t133 #true t137 : 4   [if ⟨10, true⟩]
        refine wpB_take (i := 17) (v := undef) (get_of_drop rfl) (by kernel_rfl) (by kernel_rfl) (by kernel_rfl) (by kernel_rfl) (fun _ _ _ h => h) (Or.inr ⟨by rfl, rfl⟩) hHeld ?_
        try simp only [Act.put, List.setIfInBounds_toArray, List.set_cons_zero, List.set_cons_succ]
        -- 18: t139 := pick t131 t138 #false : 4
        refine wpB_take (i := 18) (v := ?_) (get_of_drop rfl) (by kernel_rfl) (by kernel_rfl) (by kernel_rfl) (by kernel_rfl) (fun _ _ _ h => h) (Or.inl ⟨by rfl, ?_⟩) hHeld ?_
        rotate_left
        · (intro w hSw; (try dsimp only at hSw); go_simp <;> with_reducible rfl)
        try simp only [Act.put, List.setIfInBounds_toArray, List.set_cons_zero, List.set_cons_succ]
        refine wpB_done (by kernel_rfl) ?_ _
        obtain ⟨wm, hdn⟩ : ∃ q_, q_ = wn.drew := ⟨_, rfl⟩
        rw [← hdn]
        replace K := hid (show Chg (fun _ => False) w wm by rw [hdn]; exact K.out.drew)
        replace H := hid (show Rep w wm p b1 b2 b3 X r A n c (.slice none 0 0) by rw [hdn]; exact H.out.far ((Chg.refl (fun _ => False) wn).drew))
        replace BX := hid (show wm.heap[b]? = some (.cells #[.int .i64 m.kind, .int .i64 m.view, .int .i64 m.src, .int .i64 m.dst, .int .i64 m.op, .int .i64 m.commit, .int .i64 m.normal, .slice B k d] 41 (0, 0)) by rw [hdn]; exact blk_drew BX.out)
        replace HM := hid (show Ty.At entryK wm (fun j => R j ∧ j < w.heap.size) B k d m.log by rw [hdn]; exact HM.out.chg ((Chg.refl (fun _ => False) wn).drew) (fun _ _ h => h))
        replace BP := hid H.out.blk
        clear hdn hHeld
        clear U_1 X_1 X_7 hp2
        have H2 := hid H.out
        have K2 := hid (show Chg (fun j => M4 p b1 b2 b3 j ∨ (Value.slice none 0 0).ownBlock = some j) wm wm from Chg.refl _ _)
        go_wp2_with fail
        refine (sent_any H2.out).mono ?_
        rintro e' w9 ⟨rfl, h9, hv9, k9⟩
        have H9 := hid h9
        have HV9 := hid hv9
        have K9 := hid k9
        clear h9 hv9 k9
        go_wp2_with fail
        go_ret2
        have e1 : deliverR r m = (r, 0) := by rw [HDL.out]; unfold heardR; rw [if_neg (fun h => by rcases h with h | h <;> exact absurd (HKD.out.symm.trans h) (by decide))]; rw [if_neg (fun h => absurd (HKD.out.symm.trans h) (by decide))]; rw [if_neg (fun h => by rcases h with h | h <;> exact absurd (HKD.out.symm.trans h) (by decide))]; rw [if_neg (fun h => absurd (HKD.out.symm.trans h) (by decide))]; rw [if_neg (fun h => absurd (HKD.out.symm.trans h) (by decide))]; rw [if_pos HKD.out]; rw [if_neg (fun h => h.1 HP.out)]
        rw [e1]
        refine ⟨_, rfl, ⟨_, _, _, H9.out⟩, HV9.out, no_own ?_⟩
        exact ((K.out.mono (S' := fun j => M4 p b1 b2 b3 j ∨ (Value.slice none 0 0).ownBlock = some j) (fun _ h _ => h.elim)).trans K2.out (fun j hj _ => hj)).trans K9.out (fun j hj _ => .inl (.inl hj))
      · have hp2 : (primR r m.view != r.id) = true := by simp [hp]
        have HP := hid (show primR r m.view ≠ r.id from hp)
        clear hp
        cases hnw : newerR r m
        · have HNW := hid hnw
          clear hnw
          refine wpB_start (fun wx : World => Chg (fun _ => False) wn wx) (by kernel_rfl) ?_
          have hHeld : (fun wx : World => Chg (fun _ => False) wn wx) _ := (Chg.refl (fun _ => False) wn).drew
          -- 0: t121 := move t0 : 30
          refine wpB_take (i := 0) (v := ?_) (get_of_drop rfl) (by kernel_rfl) (by kernel_rfl) (by kernel_rfl) (by kernel_rfl) (fun _ _ _ h => h) (Or.inl ⟨by rfl, ?_⟩) hHeld ?_
          rotate_left
          · (intro w hSw; (try dsimp only at hSw); go_simp <;> with_reducible rfl)
          try simp only [Act.put, List.setIfInBounds_toArray, List.set_cons_zero, List.set_cons_succ]
          -- 1: t122 := fieldAddr 41 t3 1 : 0
          refine wpB_take (i := 1) (v := ?_) (get_of_drop rfl) (by kernel_rfl) (by kernel_rfl) (by kernel_rfl) (by kernel_rfl) (fun _ _ _ h => h) (Or.inl ⟨by rfl, ?_⟩) hHeld ?_
          rotate_left
          · (intro w hSw; (try dsimp only at hSw); go_simp <;> with_reducible rfl)
          try simp only [Act.put, List.setIfInBounds_toArray, List.set_cons_zero, List.set_cons_succ]
          -- 2: t123 := load 3 t122 : 3
          refine wpB_take (i := 2) (v := ?_) (get_of_drop rfl) (by kernel_rfl) (by kernel_rfl) (by kernel_rfl) (by kernel_rfl) (fun _ _ _ h => h) (Or.inl ⟨by rfl, ?_⟩) hHeld ?_
          rotate_left
          · (intro w hSw; (try dsimp only at hSw); go_simp <;> with_reducible rfl)
          try simp only [Act.put, List.setIfInBounds_toArray, List.set_cons_zero, List.set_cons_succ]
          -- 4: t125 := move t0 : 30
          refine wpB_take (i := 4) (v := ?_) (get_of_drop rfl) (by kernel_rfl) (by kernel_rfl) (by kernel_rfl) (by kernel_rfl) (fun _ _ _ h => h) (Or.inl ⟨by rfl, ?_⟩) hHeld ?_
          rotate_left
          · (intro w hSw; (try dsimp only at hSw); go_simp <;> with_reducible rfl)
          try simp only [Act.put, List.setIfInBounds_toArray, List.set_cons_zero, List.set_cons_succ]
          -- 5: t126 := nilCheck t125 : 0
          refine wpB_take (i := 5) (v := ?_) (get_of_drop rfl) (by kernel_rfl) (by kernel_rfl) (by kernel_rfl) (by kernel_rfl) (fun _ _ _ h => h) (Or.inl ⟨by rfl, ?_⟩) hHeld ?_
          rotate_left
          · (intro w hSw; (try dsimp only at hSw); go_simp <;> with_reducible rfl)
          try simp only [Act.put, List.setIfInBounds_toArray, List.set_cons_zero, List.set_cons_succ]
          -- 6: t127 := fieldAddr 100 t126 0 : 0
          refine wpB_take (i := 6) (v := ?_) (get_of_drop rfl) (by kernel_rfl) (by kernel_rfl) (by kernel_rfl) (by kernel_rfl) (fun _ _ _ h => h) (Or.inl ⟨by rfl, ?_⟩) hHeld ?_
          rotate_left
          · (intro w hSw; (try dsimp only at hSw); go_simp <;> with_reducible rfl)
          try simp only [Act.put, List.setIfInBounds_toArray, List.set_cons_zero, List.set_cons_succ]
          -- 7: t128 := fieldAddr 23 t127 1 : 0
          refine wpB_take (i := 7) (v := ?_) (get_of_drop rfl) (by kernel_rfl) (by kernel_rfl) (by kernel_rfl) (by kernel_rfl) (fun _ _ _ h => h) (Or.inl ⟨by rfl, ?_⟩) hHeld ?_
          rotate_left
          · (intro w hSw; (try dsimp only at hSw); go_simp <;> with_reducible rfl)
          try simp only [Act.put, List.setIfInBounds_toArray, List.set_cons_zero, List.set_cons_succ]
          -- 8: t129 := load 3 t128 : 3
          refine wpB_take (i := 8) (v := ?_) (get_of_drop rfl) (by kernel_rfl) (by kernel_rfl) (by kernel_rfl) (by kernel_rfl) (fun _ _ _ h => h) (Or.inl ⟨by rfl, ?_⟩) hHeld ?_
          rotate_left
          · (intro w hSw; (try dsimp only at hSw); go_simp <;> with_reducible rfl)
          try simp only [Act.put, List.setIfInBounds_toArray, List.set_cons_zero, List.set_cons_succ]
          -- 3: t124 := CALL fn48(t121, t123) : 3
          refine wpB_act (i := 3) (by kernel_rfl) (get_of_drop rfl) (fun K hK => ?_)
          go_simp
          refine (prim_any (H.out.far hHeld) HOK.out.cfg.1 (msgR_num HMR.out).2.1).mono ?_
          rintro e' wy ⟨rfl, rfl⟩
          refine hK.out _ _ ?_ (fun hHeld2 => ?_)
          · first | assumption | exact HW.out
          clear hHeld hK K
          have hHeld := hHeld2
          clear hHeld2
          try simp only [Act.put, List.setIfInBounds_toArray, List.set_cons_zero, List.set_cons_succ]
          -- 9: t130 := binOp BinOp.neq 3 t124 t129 3 : 4
          refine wpB_take (i := 9) (v := ?_) (get_of_drop rfl) (by kernel_rfl) (by kernel_rfl) (by kernel_rfl) (by kernel_rfl) (fun _ _ _ h => h) (Or.inl ⟨by rfl, ?_⟩) hHeld ?_
          rotate_left
          · (intro w hSw; (try dsimp only at hSw); go_simp <;> with_reducible rfl)
          try simp only [Act.put, List.setIfInBounds_toArray, List.set_cons_zero, List.set_cons_succ]
          -- 10: t131 := move t130 : 4
          refine wpB_take (i := 10) (v := ?_) (get_of_drop rfl) (by kernel_rfl) (by kernel_rfl) (by kernel_rfl) (by kernel_rfl) (fun _ _ _ h => h) (Or.inl ⟨by rfl, ?_⟩) hHeld ?_
          rotate_left
          · (intro w hSw; (try dsimp only at hSw); go_simp <;> with_reducible rfl)
          try simp only [Act.put, List.setIfInBounds_toArray, List.set_cons_zero, List.set_cons_succ]
          -- 11: t132 := move t6 : 4   [if ⟨10, true⟩]
          refine wpB_take (i := 11) (v := ?_) (get_of_drop rfl) (by kernel_rfl) (by kernel_rfl) (by kernel_rfl) (by kernel_rfl) (fun _ _ _ h => h) (Or.inl ⟨by rfl, ?_⟩) hHeld ?_
          rotate_left
          · (intro w hSw; (try dsimp only at hSw); go_simp <;> with_reducible rfl)
          try simp only [Act.put, List.setIfInBounds_toArray, List.set_cons_zero, List.set_cons_succ]
          -- 12: t133 := move t132 : 4   [if ⟨10, true⟩]
          refine wpB_take (i := 12) (v := ?_) (get_of_drop rfl) (by kernel_rfl) (by kernel_rfl) (by kernel_rfl) (by kernel_rfl) (fun _ _ _ h => h) (Or.inl ⟨by rfl, ?_⟩) hHeld ?_
          rotate_left
          · (intro w hSw; (try dsimp only at hSw); go_simp <;> with_reducible rfl)
          try simp only [Act.put, List.setIfInBounds_toArray, List.set_cons_zero, List.set_cons_succ]
          -- 13: t134 := move t0 : 30   [if ⟨12, false⟩]
          refine wpB_take (i := 13) (v := ?_) (get_of_drop rfl) (by kernel_rfl) (by kernel_rfl) (by kernel_rfl) (by kernel_rfl) (fun _ _ _ h => h) (Or.inl ⟨by rfl, ?_⟩) hHeld ?_
          rotate_left
          · (intro w hSw; (try dsimp only at hSw); go_simp <;> with_reducible rfl)
          try simp only [Act.put, List.setIfInBounds_toArray, List.set_cons_zero, List.set_cons_succ]
          -- 14: t135 := fieldAddr 41 t3 7 : 0   [if ⟨12, false⟩]
          refine wpB_take (i := 14) (v := ?_) (get_of_drop rfl) (by kernel_rfl) (by kernel_rfl) (by kernel_rfl) (by kernel_rfl) (fun _ _ _ h => h) (Or.inl ⟨by rfl, ?_⟩) hHeld ?_
          rotate_left
          · (intro w hSw; (try dsimp only at hSw); go_simp <;> with_reducible rfl)
          try simp only [Act.put, List.setIfInBounds_toArray, List.set_cons_zero, List.set_cons_succ]
          -- 15: t136 := load 24 t135 : 24   [if ⟨12, false⟩]
          refine wpB_take (i := 15) (v := ?_) (get_of_drop rfl) (by kernel_rfl) (by kernel_rfl) (by kernel_rfl) (by kernel_rfl) (fun _ _ _ h => h) (Or.inl ⟨by rfl, ?_⟩) hHeld ?_
          rotate_left
          · (intro w hSw; (try dsimp only at hSw); go_simp <;> with_reducible rfl)
          try simp only [Act.put, List.setIfInBounds_toArray, List.set_cons_zero, List.set_cons_succ]
          -- 16: t137 := CALL fn55(t134, t136) : 4   [if ⟨12, false⟩]
          refine wpB_act (i := 16) (by kernel_rfl) (get_of_drop rfl) (fun K hK => ?_)
          go_simp
          refine (extends_any (H.out.far hHeld) (HM.out.chg hHeld (fun _ _ h => h)) HN.out).mono ?_
          rintro e' wy ⟨rfl, hwy⟩
          have HW := hid (show Chg (fun _ => False) wn wy from hHeld.trans hwy (fun _ h _ => h))
          refine hK.out _ _ ?_ (fun hHeld2 => ?_)
          · first | assumption | exact HW.out
          clear hHeld hK K
          have hHeld := hHeld2
          clear hHeld2
          try simp only [Act.put, List.setIfInBounds_toArray, List.set_cons_zero, List.set_cons_succ]
          -- 17: t138 := pick t133 #true t137 : 4   [if ⟨10, true⟩]
          refine wpB_take (i := 17) (v := ?_) (get_of_drop rfl) (by kernel_rfl) (by kernel_rfl) (by kernel_rfl) (by kernel_rfl) (fun _ _ _ h => h) (Or.inl ⟨by rfl, ?_⟩) hHeld ?_
          rotate_left
          · (intro w hSw; (try dsimp only at hSw); go_simp <;> with_reducible rfl)
          try simp only [Act.put, List.setIfInBounds_toArray, List.set_cons_zero, List.set_cons_succ]
          -- 18: t139 := pick t131 t138 #false : 4
          refine wpB_take (i := 18) (v := ?_) (get_of_drop rfl) (by kernel_rfl) (by kernel_rfl) (by kernel_rfl) (by kernel_rfl) (fun _ _ _ h => h) (Or.inl ⟨by rfl, ?_⟩) hHeld ?_
          rotate_left
          · (intro w hSw; (try dsimp only at hSw); go_simp <;> with_reducible rfl)
          try simp only [Act.put, List.setIfInBounds_toArray, List.set_cons_zero, List.set_cons_succ]
          refine wpB_done (by kernel_rfl) ?_ _
          clear U_1 X_1 X_7 hp2
          obtain ⟨wm, hdn⟩ : ∃ q_, q_ = wy := ⟨_, rfl⟩
          rw [← hdn]
          replace K := hid (show Chg (fun _ => False) w wm by rw [hdn]; exact K.out.trans HW.out (fun _ h _ => h))
          replace H := hid (show Rep w wm p b1 b2 b3 X r A n c (.slice none 0 0) by rw [hdn]; exact H.out.far HW.out)
          replace BX := hid (show wm.heap[b]? = some (.cells #[.int .i64 m.kind, .int .i64 m.view, .int .i64 m.src, .int .i64 m.dst, .int .i64 m.op, .int .i64 m.commit, .int .i64 m.normal, .slice B k d] 41 (0, 0)) by rw [hdn]; exact HW.out.blk BX.out (fun h => h))
          replace HM := hid (show Ty.At entryK wm (fun j => R j ∧ j < w.heap.size) B k d m.log by rw [hdn]; exact HM.out.chg HW.out (fun _ _ h => h))
          replace BP := hid H.out.blk
          clear hdn hHeld
          cases hx : extendsR r m.log
          · have HX := hid hx
            clear hx
            have H2 := hid H.out
            have K2 := hid (show Chg (fun j => M4 p b1 b2 b3 j ∨ (Value.slice none 0 0).ownBlock = some j) wm wm from Chg.refl _ _)
            go_wp2_with fail
            refine (sent_any H2.out).mono ?_
            rintro e' w9 ⟨rfl, h9, hv9, k9⟩
            have H9 := hid h9
            have HV9 := hid hv9
            have K9 := hid k9
            clear h9 hv9 k9
            go_wp2_with fail
            go_ret2
            have e1 : deliverR r m = (r, 0) := by rw [HDL.out]; unfold heardR; rw [if_neg (fun h => by rcases h with h | h <;> exact absurd (HKD.out.symm.trans h) (by decide))]; rw [if_neg (fun h => absurd (HKD.out.symm.trans h) (by decide))]; rw [if_neg (fun h => by rcases h with h | h <;> exact absurd (HKD.out.symm.trans h) (by decide))]; rw [if_neg (fun h => absurd (HKD.out.symm.trans h) (by decide))]; rw [if_neg (fun h => absurd (HKD.out.symm.trans h) (by decide))]; rw [if_pos HKD.out]; rw [if_neg (fun h => by rcases h.2 with h | h; exact absurd (HNW.out.symm.trans h) (by decide); exact absurd (HX.out.symm.trans h) (by decide))]
            rw [e1]
            refine ⟨_, rfl, ⟨_, _, _, H9.out⟩, HV9.out, no_own ?_⟩
            exact ((K.out.mono (S' := fun j => M4 p b1 b2 b3 j ∨ (Value.slice none 0 0).ownBlock = some j) (fun _ h _ => h.elim)).trans K2.out (fun j hj _ => hj)).trans K9.out (fun j hj _ => .inl (.inl hj))
          · have HX := hid hx
            clear hx
            have X_0 : wm.cell? ⟨b, 0, none⟩ = some (.int .i64 m.kind) := (cellAt BX.out 0).trans rfl
            have X_1 : wm.cell? ⟨b, 1, none⟩ = some (.int .i64 m.view) := (cellAt BX.out 1).trans rfl
            have X_2 : wm.cell? ⟨b, 2, none⟩ = some (.int .i64 m.src) := (cellAt BX.out 2).trans rfl
            have X_3 : wm.cell? ⟨b, 3, none⟩ = some (.int .i64 m.dst) := (cellAt BX.out 3).trans rfl
            have X_4 : wm.cell? ⟨b, 4, none⟩ = some (.int .i64 m.op) := (cellAt BX.out 4).trans rfl
            have X_5 : wm.cell? ⟨b, 5, none⟩ = some (.int .i64 m.commit) := (cellAt BX.out 5).trans rfl
            have X_6 : wm.cell? ⟨b, 6, none⟩ = some (.int .i64 m.normal) := (cellAt BX.out 6).trans rfl
            have X_7 : wm.cell? ⟨b, 7, none⟩ = some (.slice B k d) := (cellAt BX.out 7).trans rfl
            go_wp2_with fail
            clear X_0 X_1 X_2 X_3 X_4 X_5 X_6 X_7
            refine (take_any H.out HM.out HOK.out HMR.out (by rw [HO.out]; decide)).mono ?_
            rintro e' we ⟨A', n', c', O', rfl, he, hoe, ke⟩
            have H2 := hid he
            have K2 := hid ke
            clear he hoe ke
            go_wp2_with fail
            refine (sent_any H2.out).mono ?_
            rintro e' w9 ⟨rfl, h9, hv9, k9⟩
            have H9 := hid h9
            have HV9 := hid hv9
            have K9 := hid k9
            clear h9 hv9 k9
            go_wp2_with fail
            go_ret2
            have e1 : deliverR r m = (takeR r m, 0) := by rw [HDL.out]; unfold heardR; rw [if_neg (fun h => by rcases h with h | h <;> exact absurd (HKD.out.symm.trans h) (by decide))]; rw [if_neg (fun h => absurd (HKD.out.symm.trans h) (by decide))]; rw [if_neg (fun h => by rcases h with h | h <;> exact absurd (HKD.out.symm.trans h) (by decide))]; rw [if_neg (fun h => absurd (HKD.out.symm.trans h) (by decide))]; rw [if_neg (fun h => absurd (HKD.out.symm.trans h) (by decide))]; rw [if_pos HKD.out]; rw [if_pos ⟨HP.out, .inr HX.out⟩]
            rw [e1]
            refine ⟨_, rfl, ⟨_, _, _, H9.out⟩, HV9.out, no_own ?_⟩
            exact ((K.out.mono (S' := fun j => M4 p b1 b2 b3 j ∨ (Value.slice none 0 0).ownBlock = some j) (fun _ h _ => h.elim)).trans K2.out (fun j hj _ => hj)).trans K9.out (fun j hj _ => .inl (.inl hj))
        · have HNW := hid hnw
          clear hnw
          refine wpB_start (fun wx : World => Chg (fun _ => False) wn wx) (by kernel_rfl) ?_
          have hHeld : (fun wx : World => Chg (fun _ => False) wn wx) _ := (Chg.refl (fun _ => False) wn).drew
          -- 0: t121 := move t0 : 30
          refine wpB_take (i := 0) (v := ?_) (get_of_drop rfl) (by kernel_rfl) (by kernel_rfl) (by kernel_rfl) (by kernel_rfl) (fun _ _ _ h => h) (Or.inl ⟨by rfl, ?_⟩) hHeld ?_
          rotate_left
          · (intro w hSw; (try dsimp only at hSw); go_simp <;> with_reducible rfl)
          try simp only [Act.put, List.setIfInBounds_toArray, List.set_cons_zero, List.set_cons_succ]
          -- 1: t122 := fieldAddr 41 t3 1 : 0
          refine wpB_take (i := 1) (v := ?_) (get_of_drop rfl) (by kernel_rfl) (by kernel_rfl) (by kernel_rfl) (by kernel_rfl) (fun _ _ _ h => h) (Or.inl ⟨by rfl, ?_⟩) hHeld ?_
          rotate_left
          · (intro w hSw; (try dsimp only at hSw); go_simp <;> with_reducible rfl)
          try simp only [Act.put, List.setIfInBounds_toArray, List.set_cons_zero, List.set_cons_succ]
          -- 2: t123 := load 3 t122 : 3
          refine wpB_take (i := 2) (v := ?_) (get_of_drop rfl) (by kernel_rfl) (by kernel_rfl) (by kernel_rfl) (by kernel_rfl) (fun _ _ _ h => h) (Or.inl ⟨by rfl, ?_⟩) hHeld ?_
          rotate_left
          · (intro w hSw; (try dsimp only at hSw); go_simp <;> with_reducible rfl)
          try simp only [Act.put, List.setIfInBounds_toArray, List.set_cons_zero, List.set_cons_succ]
          -- 4: t125 := move t0 : 30
          refine wpB_take (i := 4) (v := ?_) (get_of_drop rfl) (by kernel_rfl) (by kernel_rfl) (by kernel_rfl) (by kernel_rfl) (fun _ _ _ h => h) (Or.inl ⟨by rfl, ?_⟩) hHeld ?_
          rotate_left
          · (intro w hSw; (try dsimp only at hSw); go_simp <;> with_reducible rfl)
          try simp only [Act.put, List.setIfInBounds_toArray, List.set_cons_zero, List.set_cons_succ]
          -- 5: t126 := nilCheck t125 : 0
          refine wpB_take (i := 5) (v := ?_) (get_of_drop rfl) (by kernel_rfl) (by kernel_rfl) (by kernel_rfl) (by kernel_rfl) (fun _ _ _ h => h) (Or.inl ⟨by rfl, ?_⟩) hHeld ?_
          rotate_left
          · (intro w hSw; (try dsimp only at hSw); go_simp <;> with_reducible rfl)
          try simp only [Act.put, List.setIfInBounds_toArray, List.set_cons_zero, List.set_cons_succ]
          -- 6: t127 := fieldAddr 100 t126 0 : 0
          refine wpB_take (i := 6) (v := ?_) (get_of_drop rfl) (by kernel_rfl) (by kernel_rfl) (by kernel_rfl) (by kernel_rfl) (fun _ _ _ h => h) (Or.inl ⟨by rfl, ?_⟩) hHeld ?_
          rotate_left
          · (intro w hSw; (try dsimp only at hSw); go_simp <;> with_reducible rfl)
          try simp only [Act.put, List.setIfInBounds_toArray, List.set_cons_zero, List.set_cons_succ]
          -- 7: t128 := fieldAddr 23 t127 1 : 0
          refine wpB_take (i := 7) (v := ?_) (get_of_drop rfl) (by kernel_rfl) (by kernel_rfl) (by kernel_rfl) (by kernel_rfl) (fun _ _ _ h => h) (Or.inl ⟨by rfl, ?_⟩) hHeld ?_
          rotate_left
          · (intro w hSw; (try dsimp only at hSw); go_simp <;> with_reducible rfl)
          try simp only [Act.put, List.setIfInBounds_toArray, List.set_cons_zero, List.set_cons_succ]
          -- 8: t129 := load 3 t128 : 3
          refine wpB_take (i := 8) (v := ?_) (get_of_drop rfl) (by kernel_rfl) (by kernel_rfl) (by kernel_rfl) (by kernel_rfl) (fun _ _ _ h => h) (Or.inl ⟨by rfl, ?_⟩) hHeld ?_
          rotate_left
          · (intro w hSw; (try dsimp only at hSw); go_simp <;> with_reducible rfl)
          try simp only [Act.put, List.setIfInBounds_toArray, List.set_cons_zero, List.set_cons_succ]
          -- 3: t124 := CALL fn48(t121, t123) : 3
          refine wpB_act (i := 3) (by kernel_rfl) (get_of_drop rfl) (fun K hK => ?_)
          go_simp
          refine (prim_any (H.out.far hHeld) HOK.out.cfg.1 (msgR_num HMR.out).2.1).mono ?_
          rintro e' wy ⟨rfl, rfl⟩
          refine hK.out _ _ ?_ (fun hHeld2 => ?_)
          · first | assumption | exact Chg.alloc hHeld _
          clear hHeld hK K
          have hHeld := hHeld2
          clear hHeld2
          try simp only [Act.put, List.setIfInBounds_toArray, List.set_cons_zero, List.set_cons_succ]
          -- 9: t130 := binOp BinOp.neq 3 t124 t129 3 : 4
          refine wpB_take (i := 9) (v := ?_) (get_of_drop rfl) (by kernel_rfl) (by kernel_rfl) (by kernel_rfl) (by kernel_rfl) (fun _ _ _ h => h) (Or.inl ⟨by rfl, ?_⟩) hHeld ?_
          rotate_left
          · (intro w hSw; (try dsimp only at hSw); go_simp <;> with_reducible rfl)
          try simp only [Act.put, List.setIfInBounds_toArray, List.set_cons_zero, List.set_cons_succ]
          -- 10: t131 := move t130 : 4
          refine wpB_take (i := 10) (v := ?_) (get_of_drop rfl) (by kernel_rfl) (by kernel_rfl) (by kernel_rfl) (by kernel_rfl) (fun _ _ _ h => h) (Or.inl ⟨by rfl, ?_⟩) hHeld ?_
          rotate_left
          · (intro w hSw; (try dsimp only at hSw); go_simp <;> with_reducible rfl)
          try simp only [Act.put, List.setIfInBounds_toArray, List.set_cons_zero, List.set_cons_succ]
          -- 11: t132 := move t6 : 4   [if ⟨10, true⟩]
          refine wpB_take (i := 11) (v := ?_) (get_of_drop rfl) (by kernel_rfl) (by kernel_rfl) (by kernel_rfl) (by kernel_rfl) (fun _ _ _ h => h) (Or.inl ⟨by rfl, ?_⟩) hHeld ?_
          rotate_left
          · (intro w hSw; (try dsimp only at hSw); go_simp <;> with_reducible rfl)
          try simp only [Act.put, List.setIfInBounds_toArray, List.set_cons_zero, List.set_cons_succ]
          -- 12: t133 := move t132 : 4   [if ⟨10, true⟩]
          refine wpB_take (i := 12) (v := ?_) (get_of_drop rfl) (by kernel_rfl) (by kernel_rfl) (by kernel_rfl) (by kernel_rfl) (fun _ _ _ h => h) (Or.inl ⟨by rfl, ?_⟩) hHeld ?_
          rotate_left
          · (intro w hSw; (try dsimp only at hSw); go_simp <;> with_reducible rfl)
          try simp only [Act.put, List.setIfInBounds_toArray, List.set_cons_zero, List.set_cons_succ]
          -- 13: t134 := move t0 : 30   [if ⟨12, false⟩]
          refine wpB_take (i := 13) (v := undef) (get_of_drop rfl) (by kernel_rfl) (by kernel_rfl) (by kernel_rfl) (by kernel_rfl) (fun _ _ _ h => h) (Or.inr ⟨by rfl, rfl⟩) hHeld ?_
          try simp only [Act.put, List.setIfInBounds_toArray, List.set_cons_zero, List.set_cons_succ]
          -- 14: t135 := fieldAddr 41 t3 7 : 0   [if ⟨12, false⟩]
          refine wpB_take (i := 14) (v := undef) (get_of_drop rfl) (by kernel_rfl) (by kernel_rfl) (by kernel_rfl) (by kernel_rfl) (fun _ _ _ h => h) (Or.inr ⟨by rfl, rfl⟩) hHeld ?_
          try simp only [Act.put, List.setIfInBounds_toArray, List.set_cons_zero, List.set_cons_succ]
          -- 15: t136 := load 24 t135 : 24   [if ⟨12, false⟩]
          refine wpB_take (i := 15) (v := undef) (get_of_drop rfl) (by kernel_rfl) (by kernel_rfl) (by kernel_rfl) (by kernel_rfl) (fun _ _ _ h => h) (Or.inr ⟨by rfl, rfl⟩) hHeld ?_
          try simp only [Act.put, List.setIfInBounds_toArray, List.set_cons_zero, List.set_cons_succ]
          -- 16: t137 := CALL fn55(t134, t136) : 4   [if ⟨12, false⟩]
          refine wpB_take (i := 16) (v := undef) (get_of_drop rfl) (by kernel_rfl) (by kernel_rfl) (by kernel_rfl) (by kernel_rfl) (fun _ _ _ h => h) (Or.inr ⟨by rfl, rfl⟩) hHeld ?_
          try simp only [Act.put, List.setIfInBounds_toArray, List.set_cons_zero, List.set_cons_succ]
          -- 17: t138 := pick t133 #true t137 : 4   [if ⟨10, true⟩]
          refine wpB_take (i := 17) (v := ?_) (get_of_drop rfl) (by kernel_rfl) (by kernel_rfl) (by kernel_rfl) (by kernel_rfl) (fun _ _ _ h => h) (Or.inl ⟨by rfl, ?_⟩) hHeld ?_
          rotate_left
          · (intro w hSw; (try dsimp only at hSw); go_simp <;> with_reducible rfl)
          try simp only [Act.put, List.setIfInBounds_toArray, List.set_cons_zero, List.set_cons_succ]
          -- 18: t139 := pick t131 t138 #false : 4
          refine wpB_take (i := 18) (v := ?_) (get_of_drop rfl) (by kernel_rfl) (by kernel_rfl) (by kernel_rfl) (by kernel_rfl) (fun _ _ _ h => h) (Or.inl ⟨by rfl, ?_⟩) hHeld ?_
          rotate_left
          · (intro w hSw; (try dsimp only at hSw); go_simp <;> with_reducible rfl)
          try simp only [Act.put, List.setIfInBounds_toArray, List.set_cons_zero, List.set_cons_succ]
          refine wpB_done (by kernel_rfl) ?_ _
          obtain ⟨wm, hdn⟩ : ∃ q_, q_ = wn.drew := ⟨_, rfl⟩
          rw [← hdn]
          replace K := hid (show Chg (fun _ => False) w wm by rw [hdn]; exact K.out.drew)
          replace H := hid (show Rep w wm p b1 b2 b3 X r A n c (.slice none 0 0) by rw [hdn]; exact H.out.far ((Chg.refl (fun _ => False) wn).drew))
          replace BX := hid (show wm.heap[b]? = some (.cells #[.int .i64 m.kind, .int .i64 m.view, .int .i64 m.src, .int .i64 m.dst, .int .i64 m.op, .int .i64 m.commit, .int .i64 m.normal, .slice B k d] 41 (0, 0)) by rw [hdn]; exact blk_drew BX.out)
          replace HM := hid (show Ty.At entryK wm (fun j => R j ∧ j < w.heap.size) B k d m.log by rw [hdn]; exact HM.out.chg ((Chg.refl (fun _ => False) wn).drew) (fun _ _ h => h))
          replace BP := hid H.out.blk
          clear hdn hHeld
          clear U_1 X_1 X_7 hp2
          have X_0 : wm.cell? ⟨b, 0, none⟩ = some (.int .i64 m.kind) := (cellAt BX.out 0).trans rfl
          have X_1 : wm.cell? ⟨b, 1, none⟩ = some (.int .i64 m.view) := (cellAt BX.out 1).trans rfl
          have X_2 : wm.cell? ⟨b, 2, none⟩ = some (.int .i64 m.src) := (cellAt BX.out 2).trans rfl
          have X_3 : wm.cell? ⟨b, 3, none⟩ = some (.int .i64 m.dst) := (cellAt BX.out 3).trans rfl
          have X_4 : wm.cell? ⟨b, 4, none⟩ = some (.int .i64 m.op) := (cellAt BX.out 4).trans rfl
          have X_5 : wm.cell? ⟨b, 5, none⟩ = some (.int .i64 m.commit) := (cellAt BX.out 5).trans rfl
          have X_6 : wm.cell? ⟨b, 6, none⟩ = some (.int .i64 m.normal) := (cellAt BX.out 6).trans rfl
          have X_7 : wm.cell? ⟨b, 7, none⟩ = some (.slice B k d) := (cellAt BX.out 7).trans rfl
          go_wp2_with fail
          clear X_0 X_1 X_2 X_3 X_4 X_5 X_6 X_7
          refine (take_any H.out HM.out HOK.out HMR.out (by rw [HO.out]; decide)).mono ?_
          rintro e' we ⟨A', n', c', O', rfl, he, hoe, ke⟩
          have H2 := hid he
          have K2 := hid ke
          clear he hoe ke
          go_wp2_with fail
          refine (sent_any H2.out).mono ?_
          rintro e' w9 ⟨rfl, h9, hv9, k9⟩
          have H9 := hid h9
          have HV9 := hid hv9
          have K9 := hid k9
          clear h9 hv9 k9
          go_wp2_with fail
          go_ret2
          have e1 : deliverR r m = (takeR r m, 0) := by rw [HDL.out]; unfold heardR; rw [if_neg (fun h => by rcases h with h | h <;> exact absurd (HKD.out.symm.trans h) (by decide))]; rw [if_neg (fun h => absurd (HKD.out.symm.trans h) (by decide))]; rw [if_neg (fun h => by rcases h with h | h <;> exact absurd (HKD.out.symm.trans h) (by decide))]; rw [if_neg (fun h => absurd (HKD.out.symm.trans h) (by decide))]; rw [if_neg (fun h => absurd (HKD.out.symm.trans h) (by decide))]; rw [if_pos HKD.out]; rw [if_pos ⟨HP.out, .inl HNW.out⟩]
          rw [e1]
          refine ⟨_, rfl, ⟨_, _, _, H9.out⟩, HV9.out, no_own ?_⟩
          exact ((K.out.mono (S' := fun j => M4 p b1 b2 b3 j ∨ (Value.slice none 0 0).ownBlock = some j) (fun _ h _ => h.elim)).trans K2.out (fun j hj _ => hj)).trans K9.out (fun j hj _ => .inl (.inl hj))
end Go.Proofs.Ytaldoajdhbndhaa.Pa


/- State. -/

namespace Go.Proofs.Ytaldoajdhbndhaa.Pa

set_option linter.unusedVariables false

set_option linter.unusedSimpArgs false

open Go.RowKit Go.Proofs.Ytaldoajdhbndhaa.C

attribute [local go_sem] max2_int min2_int max_two min_two

set_option maxHeartbeats 4000000 in
set_option maxRecDepth 100000 in
theorem rstate_any {v0 w : World} {p b1 b2 b3 : Nat} {X : Nat → Prop} {r : Rp} {A : Option Addr} {n c : Nat} {O : Value} (h : Rep v0 w p b1 b2 b3 X r A n c O) (hok : RpOk r) :
    Calls Try.prog 15 #[.pointer (some ⟨p, 0, none⟩)] w (StateTo r.s w) := by
  obtain ⟨b2, hb2⟩ : ∃ q_, q_ = w.heap.size + 1 := ⟨_, rfl⟩
  obtain ⟨w0, hw0⟩ : ∃ q_, q_ = ((w.alloc (.cells #[.int .i64 0, .int .i64 0, .int .i64 0, .int .i64 0, .slice none 0 0] 26)).alloc (.cells #[.int .i64 r.s.view, .int .i64 r.s.normal, .int .i64 r.s.commit, .int .i64 r.s.active, .slice A n c] 26)) := ⟨_, rfl⟩
  have C0 := hid (show Chg (fun _ => False) w w0 by rw [hw0]; exact ((Chg.refl _ w).alloc _).alloc _)
  have BR := hid (show w0.heap[w.heap.size]? = some (.cells #[.int .i64 0, .int .i64 0, .int .i64 0, .int .i64 0, .slice none 0 0] 26 (0, 0)) by
    rw [hw0]
    refine blk_alloc ?_ _
    have := blk_new w (.cells #[.int .i64 0, .int .i64 0, .int .i64 0, .int .i64 0, .slice none 0 0] 26)
    simpa using this)
  have BS := hid (show w0.heap[b2]? = some (.cells #[.int .i64 r.s.view, .int .i64 r.s.normal, .int .i64 r.s.commit, .int .i64 r.s.active, .slice A n c] 26 (0, 0)) by
    rw [hw0, hb2]
    have := blk_new (w.alloc (.cells #[.int .i64 0, .int .i64 0, .int .i64 0, .int .i64 0, .slice none 0 0] 26)) (.cells #[.int .i64 r.s.view, .int .i64 r.s.normal, .int .i64 r.s.commit, .int .i64 r.s.active, .slice A n c] 26)
    simpa using this)
  have ne01 : w.heap.size ≠ b2 := by omega
  have ne10 : b2 ≠ w.heap.size := by omega
  have Hb2 := hid hb2
  have ltb2 : w.heap.size < b2 := by omega
  have SZ := hid (show w0.heap.size = w.heap.size + 2 by rw [hw0]; simp)
  have H0 := hid (h.far C0.out)
  have HL := hid H0.out.log
  have HOK := hid hok
  have hpw := lt_of_blk h.blk
  have hp1 : p ≠ w.heap.size := by omega
  have hp2 : p ≠ b2 := by omega
  have P_3 : w.cell? ⟨p, 3, none⟩ = some (.int .i64 r.s.view) := (cellAt h.blk 3).trans rfl
  have P_4 : w.cell? ⟨p, 4, none⟩ = some (.int .i64 r.s.normal) := (cellAt h.blk 4).trans rfl
  have P_5 : w.cell? ⟨p, 5, none⟩ = some (.int .i64 r.s.commit) := (cellAt h.blk 5).trans rfl
  have P_6 : w.cell? ⟨p, 6, none⟩ = some (.int .i64 r.s.active) := (cellAt h.blk 6).trans rfl
  have P_7 : w.cell? ⟨p, 7, none⟩ = some (.slice A n c) := (cellAt h.blk 7).trans rfl
  clear h hok
  go_enter Try.func15, Try.ntmps15
  go_wp2_with fail
  rw [← hb2, ← hw0]
  clear hw0 hb2
  clear P_3 P_4 P_5 P_6 P_7
  refine (rcopied_any HL.out (by have h1 := HOK.out.stn.2.2.1; have h2 := HL.out.1; omega) (fits_right HOK.out.stn.2.2.2.2.2)).mono ?_
  rintro e w2 ⟨A2, c2, rfl, hvt, h2⟩
  have hat : Ty.At entryK w2 (fun j => w0.heap.size ≤ j ∧ j < w2.heap.size) A2 n c2 r.s.log := hvt.at.bound.mono (fun j hj => ⟨by rcases hj.1 with h | h <;> exact h, hj.2⟩)
  clear hvt
  have C2 := hid (C0.out.trans h2 (fun _ h _ => h))
  have H2 := hid hat
  have Z2 := hid (show w0.heap.size ≤ w2.heap.size from h2.size)
  replace BR := hid ((h2).blk BR.out (fun h => h))
  replace BS := hid ((h2).blk BS.out (fun h => h))
  clear h2 hat
  have S_0 : w2.cell? ⟨b2, 0, none⟩ = some (.int .i64 r.s.view) := (cellAt BS.out 0).trans rfl
  have S_f0 : w2.frozen? ⟨b2, 0, none⟩ = false := freeAt BS.out 0
  have S_1 : w2.cell? ⟨b2, 1, none⟩ = some (.int .i64 r.s.normal) := (cellAt BS.out 1).trans rfl
  have S_f1 : w2.frozen? ⟨b2, 1, none⟩ = false := freeAt BS.out 1
  have S_2 : w2.cell? ⟨b2, 2, none⟩ = some (.int .i64 r.s.commit) := (cellAt BS.out 2).trans rfl
  have S_f2 : w2.frozen? ⟨b2, 2, none⟩ = false := freeAt BS.out 2
  have S_3 : w2.cell? ⟨b2, 3, none⟩ = some (.int .i64 r.s.active) := (cellAt BS.out 3).trans rfl
  have S_f3 : w2.frozen? ⟨b2, 3, none⟩ = false := freeAt BS.out 3
  have S_4 : w2.cell? ⟨b2, 4, none⟩ = some (.slice A n c) := (cellAt BS.out 4).trans rfl
  have S_f4 : w2.frozen? ⟨b2, 4, none⟩ = false := freeAt BS.out 4
  have R_0 : w2.cell? ⟨w.heap.size, 0, none⟩ = some (.int .i64 0) := (cellAt BR.out 0).trans rfl
  have R_f0 : w2.frozen? ⟨w.heap.size, 0, none⟩ = false := freeAt BR.out 0
  have R_1 : w2.cell? ⟨w.heap.size, 1, none⟩ = some (.int .i64 0) := (cellAt BR.out 1).trans rfl
  have R_f1 : w2.frozen? ⟨w.heap.size, 1, none⟩ = false := freeAt BR.out 1
  have R_2 : w2.cell? ⟨w.heap.size, 2, none⟩ = some (.int .i64 0) := (cellAt BR.out 2).trans rfl
  have R_f2 : w2.frozen? ⟨w.heap.size, 2, none⟩ = false := freeAt BR.out 2
  have R_3 : w2.cell? ⟨w.heap.size, 3, none⟩ = some (.int .i64 0) := (cellAt BR.out 3).trans rfl
  have R_f3 : w2.frozen? ⟨w.heap.size, 3, none⟩ = false := freeAt BR.out 3
  have R_4 : w2.cell? ⟨w.heap.size, 4, none⟩ = some (.slice none 0 0) := (cellAt BR.out 4).trans rfl
  have R_f4 : w2.frozen? ⟨w.heap.size, 4, none⟩ = false := freeAt BR.out 4
  obtain ⟨W2, hW2⟩ : ∃ W2, W2 = w2.setCell ⟨b2, 4, none⟩ (.slice A2 n c2) := ⟨_, rfl⟩
  have D2 := hid (show Chg (fun k => k = b2) w2 W2 by rw [hW2]; exact (Chg.refl (fun k => k = b2) w2).set (fun _ => rfl) _)
  have HW2 := hid hW2
  clear hW2
  go_wp2_with fail
  rw [← HW2.out]
  clear HW2
  clear S_0 S_f0 S_1 S_f1 S_2 S_f2 S_3 S_f3 S_4 S_f4 R_0 R_f0 R_1 R_f1 R_2 R_f2 R_3 R_f3 R_4 R_f4
  replace BR := hid (D2.out.blk BR.out (by omega))
  obtain ⟨PB, PC⟩ := put_blk [(.int .i64 r.s.view : Value), .int .i64 r.s.normal, .int .i64 r.s.commit, .int .i64 r.s.active, .slice A2 n c2] W2 _ BR.out rfl
  generalize hW : (((((W2.setCell ⟨w.heap.size, 0, none⟩ (.int .i64 r.s.view)).setCell ⟨w.heap.size, 1, none⟩ (.int .i64 r.s.normal)).setCell ⟨w.heap.size, 2, none⟩ (.int .i64 r.s.commit)).setCell ⟨w.heap.size, 3, none⟩ (.int .i64 r.s.active)).setCell ⟨w.heap.size, 4, none⟩ (.slice A2 n c2)) = W
  have BR2 := hid (show W.heap[w.heap.size]? = some (.cells #[.int .i64 r.s.view, .int .i64 r.s.normal, .int .i64 r.s.commit, .int .i64 r.s.active, .slice A2 n c2] 26 (0, 0)) by rw [← hW]; exact PB)
  have CW := hid (show Chg (fun k => k = w.heap.size) W2 W by rw [← hW]; exact PC)
  clear PB PC hW
  have z0 : W.cell? ⟨w.heap.size, 0, none⟩ = some (.int .i64 r.s.view) := (cellAt BR2.out 0).trans rfl
  have z1 : W.cell? ⟨w.heap.size, 1, none⟩ = some (.int .i64 r.s.normal) := (cellAt BR2.out 1).trans rfl
  have z2 : W.cell? ⟨w.heap.size, 2, none⟩ = some (.int .i64 r.s.commit) := (cellAt BR2.out 2).trans rfl
  have z3 : W.cell? ⟨w.heap.size, 3, none⟩ = some (.int .i64 r.s.active) := (cellAt BR2.out 3).trans rfl
  have z4 : W.cell? ⟨w.heap.size, 4, none⟩ = some (.slice A2 n c2) := (cellAt BR2.out 4).trans rfl
  refine bodyPost_ret (v := .agg #[.int .i64 r.s.view, .int .i64 r.s.normal, .int .i64 r.s.commit, .int .i64 r.s.active, .slice A2 n c2]) (by simp [results, Try.results15, go_sem, z0, z1, z2, z3, z4]) rfl ?_
  have HE : Ty.At entryK W (fun k => w.heap.size ≤ k ∧ k < W.heap.size) A2 n c2 r.s.log := by
    have z := SZ.out
    have z2 := Z2.out
    have hb := Hb2.out
    refine ((H2.out.chg D2.out (fun j hj e => by have := hj.1; omega)).chg CW.out (fun j hj e => by have := hj.1; omega)).mono (fun j hj => ⟨by have := hj.1; omega, Nat.lt_of_lt_of_le hj.2 (Nat.le_trans D2.out.size CW.out.size)⟩)
  exact ⟨A2, n, c2, rfl, HE, (C2.out.trans D2.out (fun j hj hl => by have := Hb2.out; omega)).trans CW.out (fun j hj hl => by omega)⟩
end Go.Proofs.Ytaldoajdhbndhaa.Pa


/- New. -/

namespace Go.Proofs.Ytaldoajdhbndhaa.Pa

set_option linter.unusedVariables false

set_option linter.unusedSimpArgs false

open Go.RowKit Go.Proofs.Ytaldoajdhbndhaa.C

attribute [local go_sem] max2_int min2_int max_two min_two

def NewTo (R : Nat → Prop) (n id tm : Int) (s : St) (w : World) (e' : Ending) (w' : World) : Prop :=
  (¬ (cfgR n id tm = true ∧ stR s = true) ∧ e' = .returned (.tuple #[.pointer none, .int .i64 10]) ∧ Chg (fun _ => False) w w') ∨
  (cfgR n id tm = true ∧ stR s = true ∧ ∃ p b1 b2 b3 A' n' c', e' = .returned (.tuple #[.pointer (some ⟨p, 0, none⟩), .int .i64 0]) ∧ (∀ k, M4 p b1 b2 b3 k → w.heap.size ≤ k ∧ k < w'.heap.size) ∧ Rep w' w' p b1 b2 b3 (fun k => M4 p b1 b2 b3 k ∨ (¬ R k ∧ k < w.heap.size)) (newR n id tm s) A' n' c' (.slice none 0 0) ∧ Chg (fun _ => False) w w')
/-- Fewer blocks are kept apart. -/
theorem Rep.less {w0 w : World} {p b1 b2 b3 : Nat} {X X' : Nat → Prop} {r : Rp} {A : Option Addr} {n c : Nat} {O : Value} (h : Rep w0 w p b1 b2 b3 X r A n c O) (h1 : ∀ k, M4 p b1 b2 b3 k → X' k) (h2 : ∀ k, X' k → X k) : Rep w0 w p b1 b2 b3 X' r A n c O := by
  obtain ⟨V, h3, h4⟩ := h.chgs
  have hlg : ∀ k, Lg X O k → Lg X' O k := fun k hk => ⟨fun e => hk.1 (h2 k e), hk.2⟩
  exact ⟨h.sz, h.lt, h.ne, ⟨h1, fun k hk => h.sub.2 k (h2 k hk)⟩, h.blk, h.acks, h.starts, ⟨V, h3, h4.mono hlg⟩, h.log.mono hlg, h.out⟩
set_option maxHeartbeats 4000000 in
set_option maxRecDepth 100000 in
theorem rnew_any {w : World} {R : Nat → Prop} {n id tm : Int} {s : St} {A : Option Addr} {k c : Nat} (hl : Ty.At entryK w R A k c s.log) (hk : k ≤ 1000000) (hnw : NumW n ∧ NumW id ∧ NumW tm) :
    Calls Try.prog 13 #[.agg #[.int .i64 n, .int .i64 id, .int .i64 tm], .agg #[.int .i64 s.view, .int .i64 s.normal, .int .i64 s.commit, .int .i64 s.active, .slice A k c]] w (NewTo R n id tm s w) := by
  obtain ⟨bs, hbs⟩ : ∃ q_, q_ = w.heap.size + 1 := ⟨_, rfl⟩
  obtain ⟨w1, hw1⟩ : ∃ q_, q_ = ((w.alloc (.cells #[.int .i64 n, .int .i64 id, .int .i64 tm] 23)).alloc (.cells #[.int .i64 s.view, .int .i64 s.normal, .int .i64 s.commit, .int .i64 s.active, .slice A k c] 26)) := ⟨_, rfl⟩
  have C1 := hid (show Chg (fun _ => False) w w1 by rw [hw1]; exact ((Chg.refl _ w).alloc _).alloc _)
  have BC := hid (show w1.heap[w.heap.size]? = some (.cells #[.int .i64 n, .int .i64 id, .int .i64 tm] 23 (0, 0)) by
    rw [hw1]
    refine blk_alloc ?_ _
    have := blk_new w (.cells #[.int .i64 n, .int .i64 id, .int .i64 tm] 23)
    simpa using this)
  have BS := hid (show w1.heap[bs]? = some (.cells #[.int .i64 s.view, .int .i64 s.normal, .int .i64 s.commit, .int .i64 s.active, .slice A k c] 26 (0, 0)) by
    rw [hw1, hbs]
    have := blk_new (w.alloc (.cells #[.int .i64 n, .int .i64 id, .int .i64 tm] 23)) (.cells #[.int .i64 s.view, .int .i64 s.normal, .int .i64 s.commit, .int .i64 s.active, .slice A k c] 26)
    simpa using this)
  have ne01 : w.heap.size ≠ bs := by omega
  have ne10 : bs ≠ w.heap.size := by omega
  have Hbs := hid hbs
  have ltbs : w.heap.size < bs := by omega
  have SZ := hid (show w1.heap.size = w.heap.size + 2 by rw [hw1]; simp)
  have HL := hid (hl.bound.chg C1.out (fun _ _ h => h))
  have HK := hid hk
  clear hl hk
  go_enter Try.func13, Try.ntmps13
  go_wp2_with fail
  rw [← hbs, ← hw1]
  clear hw1 hbs
  refine (cfg_any n id tm _).mono ?_
  rintro e w2 ⟨rfl, k2⟩
  have K2 := hid (show Chg (fun _ => False) w w2 from C1.out.trans k2 (fun _ h _ => h))
  replace BC := hid (k2.blk BC.out (fun h => h))
  replace BS := hid (k2.blk BS.out (fun h => h))
  replace HL := hid (HL.out.chg k2 (fun _ _ h => h))
  clear k2
  cases hcf : cfgR n id tm
  case false =>
    have HCF := hid hcf
    clear hcf
    go_wp2_with fail
    go_ret2
    exact .inl ⟨fun h => (by have := HCF.out.symm.trans h.1; cases this), rfl, K2.out⟩
  have HCF := hid hcf
  clear hcf
  have S_0 : w2.cell? ⟨bs, 0, none⟩ = some (.int .i64 s.view) := (cellAt BS.out 0).trans rfl
  have S_1 : w2.cell? ⟨bs, 1, none⟩ = some (.int .i64 s.normal) := (cellAt BS.out 1).trans rfl
  have S_2 : w2.cell? ⟨bs, 2, none⟩ = some (.int .i64 s.commit) := (cellAt BS.out 2).trans rfl
  have S_3 : w2.cell? ⟨bs, 3, none⟩ = some (.int .i64 s.active) := (cellAt BS.out 3).trans rfl
  have S_4 : w2.cell? ⟨bs, 4, none⟩ = some (.slice A k c) := (cellAt BS.out 4).trans rfl
  go_wp2_with fail
  clear S_0 S_1 S_2 S_3 S_4
  refine (stright_any HL.out).mono ?_
  rintro e w3 ⟨rfl, k3⟩
  replace K2 := hid (K2.out.trans k3 (fun _ h _ => h))
  replace BC := hid (k3.blk BC.out (fun h => h))
  replace BS := hid (k3.blk BS.out (fun h => h))
  replace HL := hid (HL.out.chg k3 (fun _ _ h => h))
  clear k3
  cases hst : stR s
  case false =>
    have HST := hid hst
    clear hst
    go_wp2_with fail
    go_ret2
    exact .inl ⟨fun h => (by have := HST.out.symm.trans h.2; cases this), rfl, K2.out⟩
  have HST := hid hst
  clear hst
  have S_0 : w3.cell? ⟨bs, 0, none⟩ = some (.int .i64 s.view) := (cellAt BS.out 0).trans rfl
  have S_1 : w3.cell? ⟨bs, 1, none⟩ = some (.int .i64 s.normal) := (cellAt BS.out 1).trans rfl
  have S_2 : w3.cell? ⟨bs, 2, none⟩ = some (.int .i64 s.commit) := (cellAt BS.out 2).trans rfl
  have S_3 : w3.cell? ⟨bs, 3, none⟩ = some (.int .i64 s.active) := (cellAt BS.out 3).trans rfl
  have S_4 : w3.cell? ⟨bs, 4, none⟩ = some (.slice A k c) := (cellAt BS.out 4).trans rfl
  have C_0 : w3.cell? ⟨w.heap.size, 0, none⟩ = some (.int .i64 n) := (cellAt BC.out 0).trans rfl
  have C_1 : w3.cell? ⟨w.heap.size, 1, none⟩ = some (.int .i64 id) := (cellAt BC.out 1).trans rfl
  have C_2 : w3.cell? ⟨w.heap.size, 2, none⟩ = some (.int .i64 tm) := (cellAt BC.out 2).trans rfl
  obtain ⟨b1, hb1⟩ : ∃ q_, q_ = w3.heap.size := ⟨_, rfl⟩
  obtain ⟨b2, hb2⟩ : ∃ q_, q_ = b1 + 1 := ⟨_, rfl⟩
  obtain ⟨b3, hb3⟩ : ∃ q_, q_ = b1 + 1 + 1 := ⟨_, rfl⟩
  obtain ⟨p, hp⟩ : ∃ q_, q_ = b1 + 1 + 1 + 1 := ⟨_, rfl⟩
  obtain ⟨w4, hw4⟩ : ∃ q_, q_ = ((((w3.alloc (.map #[] 0)).alloc (.map #[] 0)).alloc (.map #[] 0)).alloc (.cells #[.int .i64 n, .int .i64 id, .int .i64 tm, .int .i64 s.view, .int .i64 s.normal, .int .i64 s.commit, .int .i64 s.active, .slice A k c, .bool (s.normal != s.view), .map (some b1), .map (some b2), .map (some b3), .bool false, .int .i64 0, .slice none 0 0] 100)) := ⟨_, rfl⟩
  have C4 := hid (show Chg (fun _ => False) w3 w4 by rw [hw4]; exact ((((Chg.refl _ w3).alloc _).alloc _).alloc _).alloc _)
  have I1 := hid (show IM w4 b1 [] by
    rw [hw4]
    have := (IM.made w3).chg ((((Chg.refl (fun _ => False) _).alloc (.map #[] 0)).alloc (.map #[] 0)).alloc (.cells #[.int .i64 n, .int .i64 id, .int .i64 tm, .int .i64 s.view, .int .i64 s.normal, .int .i64 s.commit, .int .i64 s.active, .slice A k c, .bool (s.normal != s.view), .map (some b1), .map (some b2), .map (some b3), .bool false, .int .i64 0, .slice none 0 0] 100)) (fun h => h)
    rw [← hb1] at this
    exact this)
  have I2 := hid (show IM w4 b2 [] by
    rw [hw4]
    have := (IM.made (w3.alloc (.map #[] 0))).chg (((Chg.refl (fun _ => False) _).alloc (.map #[] 0)).alloc (.cells #[.int .i64 n, .int .i64 id, .int .i64 tm, .int .i64 s.view, .int .i64 s.normal, .int .i64 s.commit, .int .i64 s.active, .slice A k c, .bool (s.normal != s.view), .map (some b1), .map (some b2), .map (some b3), .bool false, .int .i64 0, .slice none 0 0] 100)) (fun h => h)
    rw [show (w3.alloc (.map #[] 0)).heap.size = b2 by rw [hb2, hb1]; simp] at this
    exact this)
  have I3 := hid (show IM w4 b3 [] by
    rw [hw4]
    have := (IM.made ((w3.alloc (.map #[] 0)).alloc (.map #[] 0))).chg ((Chg.refl (fun _ => False) _).alloc (.cells #[.int .i64 n, .int .i64 id, .int .i64 tm, .int .i64 s.view, .int .i64 s.normal, .int .i64 s.commit, .int .i64 s.active, .slice A k c, .bool (s.normal != s.view), .map (some b1), .map (some b2), .map (some b3), .bool false, .int .i64 0, .slice none 0 0] 100)) (fun h => h)
    rw [show ((w3.alloc (.map #[] 0)).alloc (.map #[] 0)).heap.size = b3 by rw [hb3, hb1]; simp] at this
    exact this)
  have BP := hid (show w4.heap[p]? = some (.cells #[.int .i64 n, .int .i64 id, .int .i64 tm, .int .i64 s.view, .int .i64 s.normal, .int .i64 s.commit, .int .i64 s.active, .slice A k c, .bool (s.normal != s.view), .map (some b1), .map (some b2), .map (some b3), .bool false, .int .i64 0, .slice none 0 0] 100 (0, 0)) by
    rw [hw4]
    have := blk_new (((w3.alloc (.map #[] 0)).alloc (.map #[] 0)).alloc (.map #[] 0)) (.cells #[.int .i64 n, .int .i64 id, .int .i64 tm, .int .i64 s.view, .int .i64 s.normal, .int .i64 s.commit, .int .i64 s.active, .slice A k c, .bool (s.normal != s.view), .map (some b1), .map (some b2), .map (some b3), .bool false, .int .i64 0, .slice none 0 0] 100)
    rw [show (((w3.alloc (.map #[] 0)).alloc (.map #[] 0)).alloc (.map #[] 0)).heap.size = p by rw [hp, hb1]; simp] at this
    exact this)
  have HB1 := hid hb1
  have HB2 := hid hb2
  have HB3 := hid hb3
  have HP := hid hp
  have HW4 := hid (show w4.heap.size = b1 + 1 + 1 + 1 + 1 by rw [hw4, hb1]; simp)
  have hs4 : bs < w3.heap.size := lt_of_blk BS.out
  have hs5 : bs ≠ w3.heap.size := by omega
  have hs6 : bs ≠ w3.heap.size + 1 := by omega
  have hs7 : bs ≠ w3.heap.size + 1 + 1 := by omega
  have hs8 : bs ≠ w3.heap.size + 1 + 1 + 1 := by omega
  have hs9 : bs < w3.heap.size + 1 := by omega
  have hs10 : bs < w3.heap.size + 1 + 1 := by omega
  have hs11 : bs < w3.heap.size + 1 + 1 + 1 := by omega
  have HS4 := hid hs4
  have hm1 : ∀ W : World, (Instr.makeMap 96 none).run Try.prog W = .ok (.map (some W.heap.size)) (W.alloc (.map #[] 0)) := fun W => run_makeMap _ _
  have hm2 : ∀ W : World, (Instr.makeMap 97 none).run Try.prog W = .ok (.map (some W.heap.size)) (W.alloc (.map #[] 0)) := fun W => run_makeMap _ _
  have hm3 : ∀ W : World, (Instr.makeMap 98 none).run Try.prog W = .ok (.map (some W.heap.size)) (W.alloc (.map #[] 0)) := fun W => run_makeMap _ _
  have HW4E := hid hw4
  clear hb1 hb2 hb3 hp hw4
  go_wp2_with fail
  rw [← HB1.out, ← HP.out, ← HB3.out, ← HB2.out, ← HW4E.out]
  clear hs4 hs5 hs6 hs7 hs8 hs9 hs10 hs11 hm1 hm2 hm3 S_0 S_1 S_2 S_3 S_4 C_0 C_1 C_2 HW4E
  refine (clone_ents (HL.out.chg C4.out (fun _ _ h => h)) HK.out).mono ?_
  rintro e w5 ⟨A5, c5, rfl, hv, k5⟩
  have HV := hid hv
  have K5 := hid k5
  have HCH := hid (show (s.normal != s.view) = decide (s.normal ≠ s.view) by by_cases q : s.normal = s.view <;> simp [q])
  have BP5 := hid (k5.blk BP.out (fun h => h))
  have HB1L := hid (show w.heap.size ≤ b1 by have := K2.out.size; have := HB1.out; omega)
  clear hv k5
  have P_7 : w5.cell? ⟨p, 7, none⟩ = some (.slice A k c) := (cellAt BP5.out 7).trans rfl
  have F_7 : w5.frozen? ⟨p, 7, none⟩ = false := freeAt BP5.out 7
  go_wp2_with fail
  clear P_7 F_7
  obtain ⟨w6, hw6⟩ : ∃ q_, q_ = w5.setCell ⟨p, 7, none⟩ (.slice A5 k c5) := ⟨_, rfl⟩
  rw [← hw6]
  have K6 := hid (show Chg (fun j => j = p) w5 w6 by rw [hw6]; exact (Chg.refl (fun j => j = p) w5).set (fun _ => rfl) _)
  have hsz : w4.heap.size ≤ w6.heap.size := Nat.le_trans K5.out.size K6.out.size
  have H6 : Rep w6 w6 p b1 b2 b3 (fun j => M4 p b1 b2 b3 j ∨ (¬ R j ∧ j < w.heap.size)) (newR n id tm s) A5 k c5 (.slice none 0 0) := by
    have e1 := HB1.out
    have e2 := HB2.out
    have e3 := HB3.out
    have e4 := HP.out
    have e5 := HW4.out
    have e6 := HB1L.out
    have hM : ∀ j, M4 p b1 b2 b3 j → w.heap.size ≤ j ∧ j < w4.heap.size := fun j hj => by rcases hj with h | h | h | h <;> omega
    have hl : ∀ j, (w4.heap.size ≤ j ∨ (R j ∧ j < w.heap.size)) → ¬ (M4 p b1 b2 b3 j ∨ (¬ R j ∧ j < w.heap.size)) := fun j hj e => by
      rcases e with e | e
      · have := hM j e
        rcases hj with h | h
        · omega
        · omega
      · rcases hj with h | h
        · omega
        · exact e.1 h.1
    refine ⟨Nat.le_refl _, by omega, by omega, ⟨fun j hj => .inl hj, fun j hj => by rcases hj with h | h; have := hM j h; omega; omega⟩, ?_, (I1.out.chg K5.out (fun h => h)).chg K6.out (by omega), (I2.out.chg K5.out (fun h => h)).chg K6.out (by omega), ⟨[], (I3.out.chg K5.out (fun h => h)).chg K6.out (by omega), rfl, fun q a b hq _ => by cases hq⟩, ?_, Vec.nil _ _ _ _ _⟩
    · rw [hw6]
      have := blk_set BP5.out 7 (.slice A5 k c5)
      rw [HCH.out] at this
      exact this
    · refine (HV.out.at.chg K6.out (fun j hj e => ?_)).mono (fun j hj => ⟨hl j ?_, fun e => by simp [Value.ownBlock] at e⟩)
      · rcases hj with h | h
        · have : w4.heap.size ≤ j := h; omega
        · have := h.1.2; omega
      · rcases hj with h | h
        · exact .inl h
        · exact .inr h.1
  have HH6 := hid H6
  have HS6 := hid hsz
  have C6 := hid (show Chg (fun _ => False) w w6 from ((K2.out.trans C4.out (fun _ h _ => h)).trans K5.out (fun _ h _ => h)).trans K6.out (fun j hj hl => by have h1 := HB1L.out; have h2 := HP.out; omega))
  clear H6 hsz hw6
  refine (forget_any HH6.out).mono ?_
  rintro e w7 ⟨rfl, h7, k7⟩
  have H7 := hid h7
  have K7 := hid k7
  clear h7 k7
  go_wp2_with fail
  go_ret2
  refine .inr ⟨HCF.out, HST.out, p, b1, b2, b3, A5, k, c5, rfl, fun j hj => ?_, H7.out.again rfl, C6.out.trans K7.out (fun j hj hl => ?_)⟩
  · have e1 := HB1.out
    have e2 := HB2.out
    have e3 := HB3.out
    have e4 := HP.out
    have e5 := HW4.out
    have e6 := HB1L.out
    have e7 := HS6.out
    have e8 := K7.out.size
    rcases hj with h | h | h | h <;> omega
  · have e1 := HB1.out
    have e2 := HB2.out
    have e3 := HB3.out
    have e4 := HP.out
    have e6 := HB1L.out
    rcases hj with h | h | h | h <;> omega
end Go.Proofs.Ytaldoajdhbndhaa.Pa


/- Several replicas agree: what is so of all of them, whatever is lost, doubled or late; what one has committed no other one has otherwise. No program in sight. -/

namespace Go.Proofs.Ytaldoajdhbndhaa.Pa

set_option linter.unusedVariables false

set_option linter.unusedSimpArgs false

/-- More than half of N. -/
def Maj (N : Nat) (Q : List Int) : Prop := Q.Nodup ∧ (∀ j ∈ Q, 0 ≤ j ∧ j < (N : Int)) ∧ N < 2 * Q.length
theorem Maj.meet {N : Nat} {Q Q' : List Int} (h : Maj N Q) (h' : Maj N Q') : ∃ j, j ∈ Q ∧ j ∈ Q' := by
  by_cases h0 : ∃ j, j ∈ Q ∧ j ∈ Q'
  · exact h0
  exfalso
  have hn : (Q ++ Q').Nodup := List.nodup_append.2 ⟨h.1, h'.1, fun a ha b hb e => h0 ⟨a, ha, e ▸ hb⟩⟩
  have := nodup_bound N (Q ++ Q') hn (fun x hx => by
    rcases List.mem_append.1 hx with hx | hx
    · exact h.2.1 x hx
    · exact h'.2.1 x hx)
  rw [List.length_append] at this
  have h1 := h.2.2
  have h2 := h'.2.2
  omega
theorem maj_all {N : Nat} (hN : 0 < N) : Maj N ((List.range N).map (fun k : Nat => (k : Int))) := by
  refine ⟨?_, fun j hj => ?_, by simp; omega⟩
  · refine List.Pairwise.map _ (fun a b hab => ?_) List.nodup_range
    intro e
    exact hab (by omega)
  · obtain ⟨k, hk, rfl⟩ := List.mem_map.1 hj
    have := List.mem_range.1 hk
    omega
/-- A client's requests grow. -/
def Inc (l : List Entry) : Prop := ∀ (i j : Nat) (a b : Entry), i < j → l[i]? = some a → l[j]? = some b → a.client = b.client → a.request < b.request
theorem Inc.pre {l l' : List Entry} (h : Inc l') (hp : l <+: l') : Inc l := fun i j a b hij ha hb => h i j a b hij (by
  obtain ⟨t, rfl⟩ := hp
  rw [List.getElem?_append_left (List.getElem?_eq_some_iff.1 ha).1]; exact ha) (by
  obtain ⟨t, rfl⟩ := hp
  rw [List.getElem?_append_left (List.getElem?_eq_some_iff.1 hb).1]; exact hb)
theorem Inc.snoc {l : List Entry} {e : Entry} (h : Inc l) (he : ∀ x ∈ l, x.client = e.client → x.request < e.request) : Inc (l ++ [e]) := fun i j a b hij ha hb hc => by
  have hj : j < (l ++ [e]).length := (List.getElem?_eq_some_iff.1 hb).1
  rw [List.length_append, List.length_singleton] at hj
  rw [List.getElem?_append_left (by omega)] at ha
  by_cases hl : j < l.length
  · rw [List.getElem?_append_left hl] at hb
    exact h i j a b hij ha hb hc
  · have : j = l.length := by omega
    subst this
    rw [List.getElem?_append_right (Nat.le_refl _), Nat.sub_self] at hb
    simp at hb
    subst hb
    exact he a (List.mem_of_getElem? ha) hc
theorem pre_take {l l' : List Entry} (h : l <+: l') {k : Nat} (hk : k ≤ l.length) : l'.take k = l.take k := by
  obtain ⟨t, rfl⟩ := h
  rw [List.take_append_of_le_length hk]
theorem take_pre_take {l : List Entry} {j k : Nat} (h : j ≤ k) : l.take j <+: l.take k := by
  rw [show l.take j = (l.take k).take j by rw [List.take_take, Nat.min_eq_left h]]
  exact List.take_prefix _ _
theorem pre_same {a b l : List Entry} (h1 : a <+: l) (h2 : b <+: l) (hl : a.length ≤ b.length) : a <+: b := List.prefix_of_prefix_length_le h1 h2 hl
/-- What is known of views: which have begun (D), with which log (L), which log their primary has (G), how much a replica has had in one (Ac), and which view it is in. -/
structure Gh where
  D : Int → Prop
  L : Int → List Entry
  G : Int → List Entry
  Ac : Int → Int → Nat
  vw : Int → Int
def Chosen (N : Nat) (g : Gh) (v : Int) (k : Nat) : Prop := ∃ Q, Maj N Q ∧ ∀ j ∈ Q, k ≤ g.Ac j v
structure GInv (N : Nat) (g : Gh) : Prop where
  pos : 0 < N
  pre : ∀ v, g.D v → g.L v <+: g.G v
  ac : ∀ i v, 0 < g.Ac i v → g.D v
  acl : ∀ i v, g.Ac i v ≤ (g.G v).length
  top : ∀ u, g.D u → ∃ Q, Maj N Q ∧ ∀ j ∈ Q, u ≤ g.vw j
  key : ∀ u v, g.D u → g.D v → v < u → ∃ Q, Maj N Q ∧ (∀ j ∈ Q, v < g.vw j) ∧ ∀ k, (∃ P, Maj N P ∧ ∀ j ∈ P, j ∈ Q → k ≤ g.Ac j v) → (g.G v).take k <+: g.L u
  inc : ∀ v, g.D v → Inc (g.G v)
/-- So much of a view's log is chosen. -/
def Safe (N : Nat) (g : Gh) (u : Int) (k : Nat) : Prop := ∃ v, v ≤ u ∧ g.D v ∧ Chosen N g v k ∧ k ≤ (g.G v).length ∧ (g.G v).take k <+: g.G u
theorem GInv.chosen {N : Nat} {g : Gh} (h : GInv N g) {u v : Int} (hu : g.D u) (hv : g.D v) (hlt : v < u) {k : Nat} (hc : Chosen N g v k) : (g.G v).take k <+: g.L u := by
  obtain ⟨Q, _, _, hk⟩ := h.key u v hu hv hlt
  obtain ⟨P, hP, hp⟩ := hc
  exact hk k ⟨P, hP, fun j hj _ => hp j hj⟩
theorem Chosen.zero {N : Nat} (hN : 0 < N) (g : Gh) (v : Int) : Chosen N g v 0 := ⟨_, maj_all hN, fun _ _ => Nat.zero_le _⟩
theorem Safe.zero {N : Nat} (hN : 0 < N) {g : Gh} {u : Int} (hu : g.D u) : Safe N g u 0 := ⟨u, Int.le_refl _, hu, Chosen.zero hN g u, Nat.zero_le _, by rw [List.take_zero]; exact List.nil_prefix⟩
theorem Safe.low {N : Nat} {g : Gh} (h : GInv N g) {u w : Int} {k : Nat} (hs : Safe N g u k) (hw : g.D w) (hle : u ≤ w) : ∃ v, v ≤ u ∧ g.D v ∧ Chosen N g v k ∧ k ≤ (g.G v).length ∧ (v < w → (g.G v).take k <+: g.L w) ∧ (g.G v).take k <+: g.G w := by
  obtain ⟨v, h1, h2, h3, h4, h5⟩ := hs
  refine ⟨v, h1, h2, h3, h4, fun hlt => h.chosen hw h2 hlt h3, ?_⟩
  by_cases hlt : v < w
  · exact (h.chosen hw h2 hlt h3).trans (h.pre w hw)
  · have : v = w := by omega
    subst this
    exact List.take_prefix _ _
theorem Safe.up {N : Nat} {g : Gh} (h : GInv N g) {u w : Int} {k : Nat} (hs : Safe N g u k) (hw : g.D w) (hle : u ≤ w) : Safe N g w k := by
  obtain ⟨v, h1, h2, h3, h4, _, h5⟩ := hs.low h hw hle
  exact ⟨v, by omega, h2, h3, h4, h5⟩
/-- A log of a view has what is chosen of it. -/
theorem Safe.take {N : Nat} {g : Gh} {u : Int} {k : Nat} (hs : Safe N g u k) : k ≤ (g.G u).length := by
  obtain ⟨v, h1, h2, h3, h4, h5⟩ := hs
  have := h5.length_le
  rw [List.length_take] at this
  omega
/-- A message that tells all that a replica in a change has. -/
structure ChMsg (N : Nat) (g : Gh) (m : Msg) : Prop where
  vw : m.view ≤ g.vw m.src
  lt : m.normal < m.view
  d : g.D m.normal
  lo : g.L m.normal <+: m.log
  hi : m.log <+: g.G m.normal
  acn : g.Ac m.src m.normal = m.log.length
  acz : ∀ v, m.normal < v → v < m.view → g.Ac m.src v = 0
  safe : Safe N g m.normal m.commit.toNat
  com : m.commit ≤ (m.log.length : Int)
/-- What is so of each message. -/
structure MInv (N : Nat) (g : Gh) (m : Msg) : Prop where
  right : msgR m = true
  src : m.src < (N : Int)
  dst : m.dst < (N : Int)
  ne : m.src ≠ m.dst
  vw : m.view ≤ g.vw m.src
  k1 : m.kind = 1 → g.D m.view ∧ (∃ e, m.log = [e] ∧ 1 ≤ m.op ∧ (g.G m.view)[m.op.toNat - 1]? = some e) ∧ Safe N g m.view m.commit.toNat
  k2 : m.kind = 2 → m.op ≤ (g.Ac m.src m.view : Int)
  k3 : m.kind = 3 → g.D m.view ∧ Safe N g m.view m.commit.toNat
  k5 : m.kind = 5 → ChMsg N g m
  k6 : m.kind = 6 ∨ m.kind = 8 → g.D m.view ∧ g.L m.view <+: m.log ∧ m.log <+: g.G m.view ∧ Safe N g m.view m.commit.toNat ∧ m.commit ≤ (m.log.length : Int)
structure RInv (N : Nat) (g : Gh) (i : Int) (r : Rp) : Prop where
  ok : RpOk r
  n : r.n = (N : Int)
  id : r.id = i
  vw : g.vw i = r.s.view
  d : g.D r.s.normal
  lo : g.L r.s.normal <+: r.s.log
  hi : r.s.log <+: g.G r.s.normal
  acn : g.Ac i r.s.normal = r.s.log.length
  acz : ∀ v, r.s.normal < v → g.Ac i v = 0
  safe : Safe N g r.s.normal r.s.commit.toNat
  prim : ∀ v, g.D v → v % (N : Int) = i → v ≤ r.s.normal ∧ (v = r.s.normal → r.s.log = g.G v)
  acks : ∀ p ∈ r.acks, p.1 ≠ i ∧ p.2 ≤ (g.Ac p.1 r.s.view : Int)
  chgs : ∀ p ∈ r.chgs, p.1 ≠ i ∧ ChMsg N g p.2 ∧ p.2.view = r.s.view ∧ p.2.src = p.1
  out : ∀ m ∈ r.out, MInv N g m
/-- What a step of replica i may change of what is known. -/
structure Ext (N : Nat) (i : Int) (g g' : Gh) : Prop where
  D : ∀ v, g.D v → g'.D v
  L : ∀ v, g.D v → g'.L v = g.L v
  G : ∀ v, g.D v → g.G v <+: g'.G v
  acm : ∀ j v, g.Ac j v ≤ g'.Ac j v
  fro : ∀ j v, v < g.vw j → g'.Ac j v = g.Ac j v
  vwm : ∀ j, g.vw j ≤ g'.vw j
  oth : ∀ j, j ≠ i → (∀ v, g'.Ac j v = g.Ac j v) ∧ g'.vw j = g.vw j
  own : ∀ v, v % (N : Int) ≠ i → (g'.D v → g.D v) ∧ g'.G v = g.G v
theorem Ext.refl (N : Nat) (i : Int) (g : Gh) : Ext N i g g := ⟨fun _ h => h, fun _ _ => rfl, fun _ _ => List.prefix_refl _, fun _ _ => Nat.le_refl _, fun _ _ _ => rfl, fun _ => Int.le_refl _, fun _ _ => ⟨fun _ => rfl, rfl⟩, fun _ _ => ⟨fun h => h, rfl⟩⟩
theorem Ext.trans {N : Nat} {i : Int} {a b c : Gh} (h : Ext N i a b) (k : Ext N i b c) : Ext N i a c where
  D := fun v hv => k.D v (h.D v hv)
  L := fun v hv => (k.L v (h.D v hv)).trans (h.L v hv)
  G := fun v hv => (h.G v hv).trans (k.G v (h.D v hv))
  acm := fun j v => Nat.le_trans (h.acm j v) (k.acm j v)
  fro := fun j v hv => (k.fro j v (Int.lt_of_lt_of_le hv (h.vwm j))).trans (h.fro j v hv)
  vwm := fun j => Int.le_trans (h.vwm j) (k.vwm j)
  oth := fun j hj => ⟨fun v => ((k.oth j hj).1 v).trans ((h.oth j hj).1 v), ((k.oth j hj).2).trans (h.oth j hj).2⟩
  own := fun v hv => ⟨fun hd => (h.own v hv).1 ((k.own v hv).1 hd), ((k.own v hv).2).trans (h.own v hv).2⟩
theorem Chosen.ext {N : Nat} {i : Int} {g g' : Gh} (h : Ext N i g g') {v : Int} {k : Nat} (hc : Chosen N g v k) : Chosen N g' v k := by
  obtain ⟨Q, hQ, hq⟩ := hc
  exact ⟨Q, hQ, fun j hj => Nat.le_trans (hq j hj) (h.acm j v)⟩
theorem Safe.ext {N : Nat} {i : Int} {g g' : Gh} (h : Ext N i g g') {u : Int} {k : Nat} (hu : g.D u) (hs : Safe N g u k) : Safe N g' u k := by
  obtain ⟨v, h1, h2, h3, h4, h5⟩ := hs
  refine ⟨v, h1, h.D v h2, h3.ext h, Nat.le_trans h4 (h.G v h2).length_le, ?_⟩
  rw [pre_take (h.G v h2) h4]
  exact h5.trans (h.G u hu)
theorem ChMsg.ext {N : Nat} {i : Int} {g g' : Gh} (h : Ext N i g g') {m : Msg} (hm : ChMsg N g m) : ChMsg N g' m where
  vw := Int.le_trans hm.vw (h.vwm _)
  lt := hm.lt
  d := h.D _ hm.d
  lo := by rw [h.L _ hm.d]; exact hm.lo
  hi := hm.hi.trans (h.G _ hm.d)
  acn := by rw [h.fro _ _ (Int.lt_of_lt_of_le hm.lt hm.vw)]; exact hm.acn
  acz := fun v h1 h2 => by rw [h.fro _ _ (Int.lt_of_lt_of_le h2 hm.vw)]; exact hm.acz v h1 h2
  safe := hm.safe.ext h hm.d
  com := hm.com
theorem MInv.ext {N : Nat} {i : Int} {g g' : Gh} (h : Ext N i g g') {m : Msg} (hm : MInv N g m) : MInv N g' m where
  right := hm.right
  src := hm.src
  dst := hm.dst
  ne := hm.ne
  vw := Int.le_trans hm.vw (h.vwm _)
  k1 := fun hk => by
    obtain ⟨h1, ⟨e, h2, h3, h4⟩, h5⟩ := hm.k1 hk
    refine ⟨h.D _ h1, ⟨e, h2, h3, ?_⟩, h5.ext h h1⟩
    obtain ⟨t, ht⟩ := h.G _ h1
    rw [← ht, List.getElem?_append_left (List.getElem?_eq_some_iff.1 h4).1]
    exact h4
  k2 := fun hk => by have := hm.k2 hk; have := h.acm m.src m.view; omega
  k3 := fun hk => ⟨h.D _ (hm.k3 hk).1, (hm.k3 hk).2.ext h (hm.k3 hk).1⟩
  k5 := fun hk => (hm.k5 hk).ext h
  k6 := fun hk => by
    obtain ⟨h1, h2, h3, h4, h5⟩ := hm.k6 hk
    exact ⟨h.D _ h1, by rw [h.L _ h1]; exact h2, h3.trans (h.G _ h1), h4.ext h h1, h5⟩
/-- Another replica's step. -/
theorem RInv.ext {N : Nat} {i j : Int} {g g' : Gh} (h : Ext N i g g') (hne : j ≠ i) {r : Rp} (hr : RInv N g j r) : RInv N g' j r where
  ok := hr.ok
  n := hr.n
  id := hr.id
  vw := by rw [(h.oth j hne).2]; exact hr.vw
  d := h.D _ hr.d
  lo := by rw [h.L _ hr.d]; exact hr.lo
  hi := hr.hi.trans (h.G _ hr.d)
  acn := by rw [(h.oth j hne).1]; exact hr.acn
  acz := fun v hv => by rw [(h.oth j hne).1]; exact hr.acz v hv
  safe := hr.safe.ext h hr.d
  prim := fun v hv hp => by
    have hne2 : v % (N : Int) ≠ i := by rw [hp]; exact hne
    obtain ⟨h1, h2⟩ := hr.prim v ((h.own v hne2).1 hv) hp
    exact ⟨h1, fun e => by rw [(h.own v hne2).2]; exact h2 e⟩
  acks := fun p hp => ⟨(hr.acks p hp).1, by have := (hr.acks p hp).2; have := h.acm p.1 r.s.view; omega⟩
  chgs := fun p hp => by obtain ⟨h1, h2, h3⟩ := hr.chgs p hp; exact ⟨h1, h2.ext h, h3⟩
  out := fun m hm => (hr.out m hm).ext h
/-- What a step of replica i does. -/
def Step (N : Nat) (i : Int) (g : Gh) (r r' : Rp) : Prop := GInv N g → RInv N g i r → ∃ g', GInv N g' ∧ Ext N i g g' ∧ RInv N g' i r'
theorem Step.refl (N : Nat) (i : Int) (g : Gh) (r : Rp) : Step N i g r r := fun h1 h2 => ⟨g, h1, Ext.refl _ _ _, h2⟩
theorem Step.trans {N : Nat} {i : Int} {g : Gh} {a b c : Rp} (h : Step N i g a b) (k : ∀ g', Ext N i g g' → Step N i g' b c) : Step N i g a c := fun h1 h2 => by
  obtain ⟨g1, q1, q2, q3⟩ := h h1 h2
  obtain ⟨g2, p1, p2, p3⟩ := k g1 q2 q1 q3
  exact ⟨g2, p1, q2.trans p2, p3⟩
theorem RInv.same {N : Nat} {g : Gh} {i : Int} {r r' : Rp} (h : RInv N g i r) (hok : RpOk r') (h1 : r'.n = r.n ∧ r'.id = r.id) (h2 : r'.s = r.s) (h3 : r'.acks = r.acks ∨ r'.acks = []) (h4 : r'.chgs = r.chgs ∨ r'.chgs = []) (h5 : ∀ m ∈ r'.out, m ∈ r.out ∨ MInv N g m) : RInv N g i r' where
  ok := hok
  n := h1.1.trans h.n
  id := h1.2.trans h.id
  vw := by rw [h2]; exact h.vw
  d := by rw [h2]; exact h.d
  lo := by rw [h2]; exact h.lo
  hi := by rw [h2]; exact h.hi
  acn := by rw [h2]; exact h.acn
  acz := by rw [h2]; exact h.acz
  safe := by rw [h2]; exact h.safe
  prim := by rw [h2]; exact h.prim
  acks := fun p hp => by
    rcases h3 with e | e
    · rw [e] at hp; rw [h2]; exact h.acks p hp
    · rw [e] at hp; cases hp
  chgs := fun p hp => by
    rcases h4 with e | e
    · rw [e] at hp; rw [h2]; exact h.chgs p hp
    · rw [e] at hp; cases hp
  out := fun m hm => by
    rcases h5 m hm with e | e
    · exact h.out m e
    · exact e
/-- A message is said. -/
theorem RInv.send {N : Nat} {g : Gh} {i : Int} {r : Rp} (h : RInv N g i r) (y : Int) (m : Msg) (hm : MInv N g { m with view := r.s.view, src := r.id, dst := y }) : RInv N g i (sendR r y m) :=
  h.same (h.ok.send y m) ⟨rfl, rfl⟩ rfl (.inl rfl) (.inl rfl) (fun x hx => by
    rcases List.mem_append.1 hx with hx | hx
    · exact .inl hx
    · rw [List.mem_singleton.1 hx]; exact .inr hm)
theorem mem_sayTo (r : Rp) (m : Msg) : ∀ (k : Nat) (x : Msg), x ∈ (sayTo r m k).out → x ∈ r.out ∨ ∃ j : Nat, j < k ∧ (j : Int) ≠ r.id ∧ x = { m with view := r.s.view, src := r.id, dst := (j : Int) }
  | 0, x, h => .inl h
  | k + 1, x, h => by
    rw [sayTo] at h
    split at h
    · rename_i hne
      obtain ⟨l, e, _⟩ := sayTo_same r m k
      rcases List.mem_append.1 (show x ∈ (sayTo r m k).out ++ [{ m with view := (sayTo r m k).s.view, src := (sayTo r m k).id, dst := (k : Int) }] from h) with h | h
      · rcases mem_sayTo r m k x h with h | ⟨j, h1, h2⟩
        · exact .inl h
        · exact .inr ⟨j, by omega, h2⟩
      · rw [List.mem_singleton.1 h, e]
        exact .inr ⟨k, by omega, hne, rfl⟩
    · rcases mem_sayTo r m k x h with h | ⟨j, h1, h2⟩
      · exact .inl h
      · exact .inr ⟨j, by omega, h2⟩
theorem RInv.say {N : Nat} {g : Gh} {i : Int} {r : Rp} (h : RInv N g i r) (m : Msg) (hm : ∀ j : Int, 0 ≤ j → j < (N : Int) → j ≠ r.id → MInv N g { m with view := r.s.view, src := r.id, dst := j }) : RInv N g i (sayR r m) := by
  have hn := h.n
  obtain ⟨l, e, _⟩ := sayTo_same r m r.n.toNat
  have hs : sayR r m = { r with out := r.out ++ l } := e
  refine h.same (h.ok.say m) (by rw [hs]; exact ⟨rfl, rfl⟩) (by rw [hs]) (.inl (by rw [hs])) (.inl (by rw [hs])) (fun x hx => ?_)
  rcases mem_sayTo r m _ x hx with hx | ⟨j, h1, h2, h3⟩
  · exact .inl hx
  · rw [h3]
    exact .inr (hm j (by omega) (by omega) h2)
theorem msgR_mk {m : Msg} (h1 : 1 ≤ m.kind ∧ m.kind ≤ 8) (h2 : 0 ≤ m.view ∧ m.view ≤ 1099511627776) (h3 : 0 ≤ m.normal ∧ m.normal ≤ 1099511627776) (h4 : 0 ≤ m.src ∧ m.src ≤ 6) (h5 : 0 ≤ m.dst ∧ m.dst ≤ 6) (h6 : 0 ≤ m.op ∧ m.op ≤ 64) (h7 : 0 ≤ m.commit ∧ m.commit ≤ 64)
    (h8 : if m.kind = 1 then m.log.length = 1 else if m.kind = 5 ∨ m.kind = 6 ∨ m.kind = 8 then m.log.length ≤ 64 else m.log.length = 0) (h9 : ∀ e ∈ m.log, entryR e = true) : msgR m = true := by
  unfold msgR inR numR logR
  simp only [Bool.and_eq_true, decide_eq_true_eq]
  refine ⟨⟨⟨⟨⟨⟨⟨h1, h2⟩, h3⟩, h4⟩, h5⟩, h6⟩, h7⟩, ?_⟩
  split at h8
  · rw [if_pos (by assumption)]
    simp only [Bool.and_eq_true, decide_eq_true_eq, List.all_eq_true]
    exact ⟨by omega, h9⟩
  · rw [if_neg (by assumption)]
    split at h8
    · rw [if_pos (by assumption)]
      simp only [Bool.and_eq_true, decide_eq_true_eq, List.all_eq_true]
      exact ⟨by omega, h9⟩
    · rw [if_neg (by assumption)]
      simpa using h8
/-! ### What changes of what is known -/
def Gh.setVw (g : Gh) (i v : Int) : Gh := { g with vw := fun j => if j = i then v else g.vw j }
def Gh.setAc (g : Gh) (i v : Int) (n : Nat) : Gh := { g with Ac := fun j w => if j = i ∧ w = v then n else g.Ac j w }
def Gh.setG (g : Gh) (v : Int) (l : List Entry) : Gh := { g with G := fun w => if w = v then l else g.G w }
def Gh.found (g : Gh) (i v : Int) (l : List Entry) : Gh := { g with D := fun w => w = v ∨ g.D w, L := fun w => if w = v then l else g.L w, G := fun w => if w = v then l else g.G w, Ac := fun j w => if j = i ∧ w = v then l.length else g.Ac j w }
theorem setVw_vw (g : Gh) (i v j : Int) : (g.setVw i v).vw j = if j = i then v else g.vw j := rfl
theorem setVw_ext {N : Nat} {g : Gh} {i v : Int} (h : g.vw i ≤ v) : Ext N i g (g.setVw i v) := ⟨fun _ h => h, fun _ _ => rfl, fun _ _ => List.prefix_refl _, fun _ _ => Nat.le_refl _, fun _ _ _ => rfl, fun j => by rw [setVw_vw]; split; rename_i e; rw [e]; exact h; exact Int.le_refl _, fun j hj => ⟨fun _ => rfl, by rw [setVw_vw, if_neg hj]⟩, fun _ _ => ⟨fun h => h, rfl⟩⟩
theorem setVw_inv {N : Nat} {g : Gh} {i v : Int} (hg : GInv N g) (h : g.vw i ≤ v) : GInv N (g.setVw i v) := by
  have he := (setVw_ext (N := N) h).vwm
  refine ⟨hg.pos, hg.pre, hg.ac, hg.acl, fun u hu => ?_, fun u w hu hw hlt => ?_, hg.inc⟩
  · obtain ⟨Q, h1, h2⟩ := hg.top u hu
    exact ⟨Q, h1, fun j hj => Int.le_trans (h2 j hj) (he j)⟩
  · obtain ⟨Q, h1, h2, h3⟩ := hg.key u w hu hw hlt
    exact ⟨Q, h1, fun j hj => Int.lt_of_lt_of_le (h2 j hj) (he j), h3⟩
theorem setAc_at (g : Gh) (i v : Int) (n : Nat) (j w : Int) : (g.setAc i v n).Ac j w = if j = i ∧ w = v then n else g.Ac j w := rfl
theorem setAc_ext {N : Nat} {g : Gh} {i v : Int} {n : Nat} (h : g.vw i ≤ v) (hn : g.Ac i v ≤ n) : Ext N i g (g.setAc i v n) := by
  refine ⟨fun _ h => h, fun _ _ => rfl, fun _ _ => List.prefix_refl _, fun j w => ?_, fun j w hw => ?_, fun _ => Int.le_refl _, fun j hj => ⟨fun w => ?_, rfl⟩, fun _ _ => ⟨fun h => h, rfl⟩⟩
  · rw [setAc_at]
    split
    · rename_i e; rw [e.1, e.2]; exact hn
    · exact Nat.le_refl _
  · rw [setAc_at, if_neg]
    rintro ⟨rfl, rfl⟩
    omega
  · rw [setAc_at, if_neg (fun e => hj e.1)]
theorem setAc_inv {N : Nat} {g : Gh} {i v : Int} {n : Nat} (hg : GInv N g) (h : g.vw i ≤ v) (hd : g.D v) (hn : n ≤ (g.G v).length) : GInv N (g.setAc i v n) := by
  refine ⟨hg.pos, hg.pre, fun j w hw => ?_, fun j w => ?_, hg.top, fun u w hu hw hlt => ?_, hg.inc⟩
  · rw [setAc_at] at hw
    split at hw
    · rename_i e; rw [e.2]; exact hd
    · exact hg.ac j w hw
  · rw [setAc_at]
    split
    · rename_i e; rw [e.2]; exact hn
    · exact hg.acl j w
  · obtain ⟨Q, h1, h2, h3⟩ := hg.key u w hu hw hlt
    refine ⟨Q, h1, h2, fun k hk => ?_⟩
    obtain ⟨P, hP, hp⟩ := hk
    refine h3 k ⟨P, hP, fun j hj hjq => ?_⟩
    have := hp j hj hjq
    rw [setAc_at, if_neg] at this
    · exact this
    · rintro ⟨rfl, rfl⟩
      have := h2 _ hjq
      omega
theorem setG_at (g : Gh) (v : Int) (l : List Entry) (w : Int) : (g.setG v l).G w = if w = v then l else g.G w := rfl
theorem setG_ext {N : Nat} {g : Gh} {i v : Int} {l : List Entry} (hv : v % (N : Int) = i) (hl : g.G v <+: l) : Ext N i g (g.setG v l) := by
  refine ⟨fun _ h => h, fun _ _ => rfl, fun w _ => ?_, fun j w => Nat.le_refl _, fun j w hw => rfl, fun _ => Int.le_refl _, fun j hj => ⟨fun w => rfl, rfl⟩, fun w hw => ⟨fun h => h, ?_⟩⟩
  · rw [setG_at]
    split
    · rename_i e; rw [e]; exact hl
    · exact List.prefix_refl _
  · rw [setG_at, if_neg (fun e => hw (by rw [e]; exact hv))]
theorem setG_inv {N : Nat} {g : Gh} {v : Int} {l : List Entry} (hg : GInv N g) (hd : g.D v) (hl : g.G v <+: l) (hi : Inc l) : GInv N (g.setG v l) := by
  refine ⟨hg.pos, fun w hw => ?_, hg.ac, fun j w => ?_, hg.top, fun u w hu hw hlt => ?_, fun w hw => ?_⟩
  · rw [setG_at]
    split
    · rename_i e; rw [e]; exact (hg.pre v hd).trans hl
    · exact hg.pre w hw
  · rw [setG_at]
    split
    · rename_i e; rw [e]; exact Nat.le_trans (hg.acl j v) hl.length_le
    · exact hg.acl j w
  · obtain ⟨Q, h1, h2, h3⟩ := hg.key u w hu hw hlt
    refine ⟨Q, h1, h2, fun k hk => ?_⟩
    have hh := h3 k hk
    obtain ⟨P, hP, hp⟩ := hk
    obtain ⟨j, hj1, hj2⟩ := hP.meet h1
    have h4 : k ≤ (g.G w).length := Nat.le_trans (hp j hj1 hj2) (hg.acl j w)
    rw [setG_at]
    split
    · rename_i e; subst e
      rw [pre_take hl h4]; exact hh
    · exact hh
  · rw [setG_at]
    split
    · exact hi
    · exact hg.inc w hw
theorem mod_prim {N : Nat} {g : Gh} {i : Int} {r : Rp} (h : RInv N g i r) (v : Int) : primR r v = v % (N : Int) := by unfold primR; rw [h.n]
theorem RInv.norm {N : Nat} {g : Gh} {i : Int} {r : Rp} (h : RInv N g i r) (hc : r.ch = false) : r.s.normal = r.s.view := by
  have := h.ok.ch
  rw [hc] at this
  have := (decide_eq_false_iff_not.1 this.symm)
  omega
theorem RInv.chlt {N : Nat} {g : Gh} {i : Int} {r : Rp} (h : RInv N g i r) (hc : r.ch = true) : r.s.normal < r.s.view := by
  have h1 := h.ok.ch
  rw [hc] at h1
  have h2 := (decide_eq_true_iff.1 h1.symm)
  have := h.ok.stn
  omega
theorem role_one {r : Rp} (h : roleR r = 1) : r.ch = false ∧ primR r r.s.view = r.id := by
  unfold roleR at h
  split at h
  · cases h
  · rename_i hc
    split at h
    · exact ⟨by simpa using hc, by assumption⟩
    · cases h
/-- A view is entered. -/
theorem RInv.enter {N : Nat} {g : Gh} {i : Int} {r : Rp} (h : RInv N g i r) {v : Int} (hv : r.s.view < v ∧ v ≤ 1099511627776) (hlt : r.s.normal ≤ r.s.view) : RInv N (g.setVw i v) i (enterR r v) where
  ok := h.ok.enter hv
  n := h.n
  id := h.id
  vw := by rw [setVw_vw, if_pos rfl]; rfl
  d := h.d
  lo := h.lo
  hi := h.hi
  acn := h.acn
  acz := h.acz
  safe := h.safe
  prim := h.prim
  acks := fun p hp => by cases hp
  chgs := fun p hp => by cases hp
  out := fun m hm => (h.out m hm).ext (setVw_ext (N := N) (i := i) (by rw [h.vw]; omega))
theorem Step.enter {N : Nat} {i : Int} {g : Gh} {r : Rp} {v : Int} (hv : r.s.view < v ∧ v ≤ 1099511627776) : Step N i g r (enterR r v) := fun hg h => by
  have h1 : g.vw i ≤ v := by rw [h.vw]; omega
  exact ⟨_, setVw_inv hg h1, setVw_ext h1, h.enter hv (h.ok.stn.2.1.2)⟩
/-- A message without a log, of a kind that says nothing of logs but this. -/
theorem minv_small {N : Nat} {g : Gh} {i : Int} {r : Rp} (h : RInv N g i r) {kind op : Int} {j : Int} (hj : 0 ≤ j ∧ j < (N : Int) ∧ j ≠ r.id) (hk : kind = 2 ∨ kind = 4 ∨ kind = 7) (hop : 0 ≤ op ∧ op ≤ 64) (h2 : kind = 2 → op ≤ (g.Ac i r.s.view : Int)) : MInv N g { msgOp kind op with view := r.s.view, src := r.id, dst := j } := by
  have hc := h.ok.cfg
  have hn := h.n
  have hs := h.ok.stn
  refine ⟨msgR_mk ?_ hs.1 (show (0 : Int) ≤ 0 ∧ (0 : Int) ≤ 1099511627776 by decide) (by show 0 ≤ r.id ∧ r.id ≤ 6; omega) (by show 0 ≤ j ∧ j ≤ 6; omega) hop (show (0 : Int) ≤ 0 ∧ (0 : Int) ≤ 64 by decide) ?_ (fun e he => by cases he), by show r.id < _; omega, by show j < _; omega, fun e => hj.2.2 e.symm, ?_, fun e => ?_, fun e => ?_, fun e => ?_, fun e => ?_, fun e => ?_⟩
  · show 1 ≤ kind ∧ kind ≤ 8; omega
  · show if kind = 1 then _ else if kind = 5 ∨ kind = 6 ∨ kind = 8 then _ else _
    rw [if_neg (by omega), if_neg (by omega)]; rfl
  · show r.s.view ≤ g.vw r.id
    rw [h.id, h.vw]; exact Int.le_refl _
  · have : kind = 1 := e; omega
  · show op ≤ (g.Ac r.id r.s.view : Int)
    rw [h.id]; exact h2 e
  · have : kind = 3 := e; omega
  · have : kind = 5 := e; omega
  · have : kind = 6 ∨ kind = 8 := e; omega
theorem Step.begin_ {N : Nat} {i : Int} {g : Gh} {r : Rp} {v : Int} (hv : r.s.view < v ∧ v ≤ 1099511627776) : Step N i g r (beginR r v) := fun hg h => by
  obtain ⟨g', h1, h2, h3⟩ := Step.enter (N := N) (i := i) (g := g) hv hg h
  have h4 : RInv N g' i { enterR r v with starts := ups r.id true [] } := h3.same (h3.ok.start ⟨h.ok.cfg.2.1, h.ok.cfg.2.2.1⟩ true) ⟨rfl, rfl⟩ rfl (.inl rfl) (.inl rfl) (fun m hm => .inl hm)
  exact ⟨g', h1, h2, h4.say _ (fun j j1 j2 j3 => minv_small h4 ⟨j1, j2, j3⟩ (.inr (.inl rfl)) (by decide) (fun e => by cases e))⟩
theorem Step.quiet {N : Nat} {i : Int} {g : Gh} {r : Rp} (q : Int) : Step N i g r { r with quiet := q } := fun hg h => ⟨g, hg, Ext.refl _ _ _, h.same (h.ok.qt q) ⟨rfl, rfl⟩ rfl (.inl rfl) (.inl rfl) (fun m hm => .inl hm)⟩
theorem Step.tick {N : Nat} {i : Int} {g : Gh} {r : Rp} (hok : RpOk r) : Step N i g r (tickR r) := by
  unfold tickR
  split
  · rename_i hr
    intro hg h
    obtain ⟨hc, hp⟩ := role_one hr
    have hnv := h.norm hc
    have hs := h.ok.stn
    have hcf := h.ok.cfg
    have hn := h.n
    refine ⟨g, hg, Ext.refl _ _ _, h.say _ (fun j j1 j2 j3 => ⟨msgR_mk (show (1 : Int) ≤ 3 ∧ (3 : Int) ≤ 8 by decide) hs.1 (show (0 : Int) ≤ 0 ∧ (0 : Int) ≤ 1099511627776 by decide) (by show 0 ≤ r.id ∧ r.id ≤ 6; omega) (by show 0 ≤ j ∧ j ≤ 6; omega) (by show 0 ≤ (r.s.log.length : Int) ∧ (r.s.log.length : Int) ≤ 64; omega) (by show 0 ≤ r.s.commit ∧ r.s.commit ≤ 64; omega) (by simp) (fun e he => by cases he), by show r.id < _; omega, j2, fun e => j3 e.symm, by show r.s.view ≤ g.vw r.id; rw [h.id, h.vw]; exact Int.le_refl _, fun e => (by cases e), fun e => (by cases e), fun _ => ?_, fun e => (by cases e), fun e => (by rcases e with e | e <;> cases e)⟩)⟩
    show g.D r.s.view ∧ Safe N g r.s.view r.s.commit.toNat
    rw [← hnv]
    exact ⟨h.d, h.safe⟩
  · split
    · exact (Step.quiet (r.quiet + 1)).trans (fun g' _ => Step.begin_ (by have := hok.stn; show r.s.view < r.s.view + 1 ∧ r.s.view + 1 ≤ _; omega))
    · exact Step.quiet _
end Go.Proofs.Ytaldoajdhbndhaa.Pa
