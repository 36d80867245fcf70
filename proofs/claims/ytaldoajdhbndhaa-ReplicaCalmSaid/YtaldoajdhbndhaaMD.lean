/- Texts of this claim, one behind the other: RepU. -/
import Derived.Test.YtaldoajdhbndhaaMC

/- follow. -/

namespace Go.Proofs.Ytaldoajdhbndhaa.Pa

set_option linter.unusedVariables false

set_option linter.unusedSimpArgs false

open Go.RowKit Go.Proofs.Ytaldoajdhbndhaa.C

attribute [local go_sem] max2_int min2_int max_two min_two

set_option maxHeartbeats 4000000 in
set_option maxRecDepth 100000 in
theorem follow_any {w0 w : World} {p b1 b2 b3 : Nat} {X : Nat → Prop} {r : Rp} {A : Option Addr} {n c : Nat} {O : Value} (h : Rep w0 w p b1 b2 b3 X r A n c O) {m : Msg} {R : Nat → Prop} {B : Option Addr} {k d : Nat} (hm : Ty.At entryK w R B k d m.log) (hR : ∀ j, R j → j < w.heap.size → ¬ (M4 p b1 b2 b3 j ∨ O.ownBlock = some j)) (hok : RpOk r) (hmr : msgR m = true) (hs : 0 ≤ m.src ∧ m.src < r.n) (ho : r.out.length ≤ 700) (hvl : r.s.view ≤ m.view) :
    Calls Try.prog 49 #[.pointer (some ⟨p, 0, none⟩), .agg #[.int .i64 m.kind, .int .i64 m.view, .int .i64 m.src, .int .i64 m.dst, .int .i64 m.op, .int .i64 m.commit, .int .i64 m.normal, .slice B k d]] w (RepTo w0 w p b1 b2 b3 X O (.tuple #[]) (followR r m)) := by
  obtain ⟨w1, hw1⟩ : ∃ q_, q_ = (w.alloc (.cells #[.int .i64 m.kind, .int .i64 m.view, .int .i64 m.src, .int .i64 m.dst, .int .i64 m.op, .int .i64 m.commit, .int .i64 m.normal, .slice B k d] 41)) := ⟨_, rfl⟩
  have C1 := hid (show Chg (fun _ => False) w w1 by rw [hw1]; exact (Chg.refl _ w).alloc _)
  have BX := hid (show w1.heap[w.heap.size]? = some (.cells #[.int .i64 m.kind, .int .i64 m.view, .int .i64 m.src, .int .i64 m.dst, .int .i64 m.op, .int .i64 m.commit, .int .i64 m.normal, .slice B k d] 41 (0, 0)) by
    rw [hw1]
    have := blk_new w (.cells #[.int .i64 m.kind, .int .i64 m.view, .int .i64 m.src, .int .i64 m.dst, .int .i64 m.op, .int .i64 m.commit, .int .i64 m.normal, .slice B k d] 41)
    simpa using this)
  have SZ := hid (show w1.heap.size = w.heap.size + 1 by rw [hw1]; simp)
  have H1 := hid (h.far C1.out)
  obtain ⟨b, hb⟩ : ∃ q_, q_ = w.heap.size := ⟨_, rfl⟩
  have HBb := hid hb
  replace BX := hid (show w1.heap[b]? = some (.cells #[.int .i64 m.kind, .int .i64 m.view, .int .i64 m.src, .int .i64 m.dst, .int .i64 m.op, .int .i64 m.commit, .int .i64 m.normal, .slice B k d] 41 (0, 0)) by rw [hb]; exact BX.out)
  have HSZ := hid (show w1.heap.size = b + 1 by rw [hb]; exact SZ.out)
  have HPB := hid (show p < b by rw [hb]; exact lt_of_blk h.blk)
  have HW0 := hid (show w0.heap.size ≤ b by rw [hb]; exact h.sz)
  have HM := hid hm.bound
  have HR := hid hR
  have HOK := hid hok
  have HMR := hid hmr
  have HO := hid ho
  have HVL := hid hvl
  have HSW := hid (show NumW m.src from numW_of (by have := (msgR_num hmr).2.2.2.1; omega))
  have HOB := hid h.outB
  have HOBN := hid (show ¬ O.ownBlock = some b from fun e => by have := (HOB.out b e).2; omega)
  have HPBN := hid (show ¬ b = p by have := HPB.out; omega)
  have HM4 := hid (show ¬ M4 p b1 b2 b3 b from fun e => by have h4 := h.sub.2 b (h.sub.1 b e); have := HW0.out; omega)
  have H := hid H1.out
  have BP := hid H.out.blk
  have K := hid (show Chg (fun j => M4 p b1 b2 b3 j ∨ O.ownBlock = some j) w w1 from C1.out.mono (fun _ h _ => h.elim))
  have L1 := hid h.log.1
  have HN64 := hid (show n ≤ 64 by have h1 := hok.stn.2.2.1; have h2 := h.log.1; omega)
  clear h hm hR hok hmr hs ho hvl H1
  go_enter Try.func49, Try.ntmps49
  go_wp2_with fail
  rw [← hw1, ← hb]
  clear hw1 hb SZ
  have X_1 : ∀ wx, Chg (fun _ => False) w1 wx → wx.cell? ⟨b, 1, none⟩ = some (.int .i64 m.view) := fun wx hx => (cellAt (hx.blk BX.out (fun h => h)) 1).trans rfl
  have X_2 : ∀ wx, Chg (fun _ => False) w1 wx → wx.cell? ⟨b, 2, none⟩ = some (.int .i64 m.src) := fun wx hx => (cellAt (hx.blk BX.out (fun h => h)) 2).trans rfl
  by_cases hpr : m.src = primR r m.view
  case neg =>
    have hpr2 : (m.src != primR r m.view) = true := by simp [hpr]
    have HPR := hid hpr
    clear hpr
    refine wpB_start (fun wx : World => Chg (fun _ => False) w1 wx) (by kernel_rfl) ?_
    have hHeld : (fun wx : World => Chg (fun _ => False) w1 wx) _ := (Chg.refl (fun _ => False) w1).drew
    -- 0: t5 := fieldAddr 41 t3 2 : 0
    refine wpB_take (i := 0) (v := ?_) (get_of_drop rfl) (by kernel_rfl) (by kernel_rfl) (by kernel_rfl) (by kernel_rfl) (fun _ _ _ h => h) (Or.inl ⟨by rfl, ?_⟩) hHeld ?_
    rotate_left
    · (intro w hSw; (try dsimp only at hSw); go_simp <;> with_reducible rfl)
    try simp only [Act.put, List.setIfInBounds_toArray, List.set_cons_zero, List.set_cons_succ]
    -- 1: t6 := load 3 t5 : 3
    refine wpB_take (i := 1) (v := ?_) (get_of_drop rfl) (by kernel_rfl) (by kernel_rfl) (by kernel_rfl) (by kernel_rfl) (fun _ _ _ h => h) (Or.inl ⟨by rfl, ?_⟩) hHeld ?_
    rotate_left
    · (intro w hSw; (try dsimp only at hSw); go_simp <;> with_reducible rfl)
    try simp only [Act.put, List.setIfInBounds_toArray, List.set_cons_zero, List.set_cons_succ]
    -- 2: t7 := move t0 : 30
    refine wpB_take (i := 2) (v := ?_) (get_of_drop rfl) (by kernel_rfl) (by kernel_rfl) (by kernel_rfl) (by kernel_rfl) (fun _ _ _ h => h) (Or.inl ⟨by rfl, ?_⟩) hHeld ?_
    rotate_left
    · (intro w hSw; (try dsimp only at hSw); go_simp <;> with_reducible rfl)
    try simp only [Act.put, List.setIfInBounds_toArray, List.set_cons_zero, List.set_cons_succ]
    -- 3: t8 := fieldAddr 41 t3 1 : 0
    refine wpB_take (i := 3) (v := ?_) (get_of_drop rfl) (by kernel_rfl) (by kernel_rfl) (by kernel_rfl) (by kernel_rfl) (fun _ _ _ h => h) (Or.inl ⟨by rfl, ?_⟩) hHeld ?_
    rotate_left
    · (intro w hSw; (try dsimp only at hSw); go_simp <;> with_reducible rfl)
    try simp only [Act.put, List.setIfInBounds_toArray, List.set_cons_zero, List.set_cons_succ]
    -- 4: t9 := load 3 t8 : 3
    refine wpB_take (i := 4) (v := ?_) (get_of_drop rfl) (by kernel_rfl) (by kernel_rfl) (by kernel_rfl) (by kernel_rfl) (fun _ _ _ h => h) (Or.inl ⟨by rfl, ?_⟩) hHeld ?_
    rotate_left
    · (intro w hSw; (try dsimp only at hSw); go_simp <;> with_reducible rfl)
    try simp only [Act.put, List.setIfInBounds_toArray, List.set_cons_zero, List.set_cons_succ]
    -- 5: t10 := CALL fn48(t7, t9) : 3
    refine wpB_act (i := 5) (by kernel_rfl) (get_of_drop rfl) (fun K hK => ?_)
    go_simp
    refine (prim_any (H.out.far hHeld) HOK.out.cfg.1 (msgR_num HMR.out).2.1).mono ?_
    rintro e' wy ⟨rfl, rfl⟩
    refine hK.out _ _ ?_ (fun hHeld2 => ?_)
    · first | assumption | exact Chg.alloc hHeld _
    clear hHeld hK K
    have hHeld := hHeld2
    clear hHeld2
    try simp only [Act.put, List.setIfInBounds_toArray, List.set_cons_zero, List.set_cons_succ]
    -- 6: t11 := binOp BinOp.neq 3 t6 t10 3 : 4
    refine wpB_take (i := 6) (v := ?_) (get_of_drop rfl) (by kernel_rfl) (by kernel_rfl) (by kernel_rfl) (by kernel_rfl) (fun _ _ _ h => h) (Or.inl ⟨by rfl, ?_⟩) hHeld ?_
    rotate_left
    · (intro w hSw; (try dsimp only at hSw); go_simp <;> with_reducible rfl)
    try simp only [Act.put, List.setIfInBounds_toArray, List.set_cons_zero, List.set_cons_succ]
    refine wpB_done (by kernel_rfl) ?_ _
    go_wp2_with fail
    go_end0
    have e1 : followR r m = r := by unfold followR; rw [if_pos HPR.out]
    rw [e1]
    exact ⟨A, n, c, O, rfl, H.out.far ((Chg.refl (fun _ => False) w1).drew), fun j hj => .inl hj, K.out.drew⟩
  have hpr2 : (m.src != primR r m.view) = false := by simp [hpr]
  have HFE := hid (show followR r m = follow4R (follow3R (follow2R (follow1R r m) m) m) m by unfold followR; rw [if_neg (fun h => h hpr)])
  clear hpr
  refine wpB_start (fun wx : World => Chg (fun _ => False) w1 wx) (by kernel_rfl) ?_
  have hHeld : (fun wx : World => Chg (fun _ => False) w1 wx) _ := (Chg.refl (fun _ => False) w1).drew
  -- 0: t5 := fieldAddr 41 t3 2 : 0
  refine wpB_take (i := 0) (v := ?_) (get_of_drop rfl) (by kernel_rfl) (by kernel_rfl) (by kernel_rfl) (by kernel_rfl) (fun _ _ _ h => h) (Or.inl ⟨by rfl, ?_⟩) hHeld ?_
  rotate_left
  · (intro w hSw; (try dsimp only at hSw); go_simp <;> with_reducible rfl)
  try simp only [Act.put, List.setIfInBounds_toArray, List.set_cons_zero, List.set_cons_succ]
  -- 1: t6 := load 3 t5 : 3
  refine wpB_take (i := 1) (v := ?_) (get_of_drop rfl) (by kernel_rfl) (by kernel_rfl) (by kernel_rfl) (by kernel_rfl) (fun _ _ _ h => h) (Or.inl ⟨by rfl, ?_⟩) hHeld ?_
  rotate_left
  · (intro w hSw; (try dsimp only at hSw); go_simp <;> with_reducible rfl)
  try simp only [Act.put, List.setIfInBounds_toArray, List.set_cons_zero, List.set_cons_succ]
  -- 2: t7 := move t0 : 30
  refine wpB_take (i := 2) (v := ?_) (get_of_drop rfl) (by kernel_rfl) (by kernel_rfl) (by kernel_rfl) (by kernel_rfl) (fun _ _ _ h => h) (Or.inl ⟨by rfl, ?_⟩) hHeld ?_
  rotate_left
  · (intro w hSw; (try dsimp only at hSw); go_simp <;> with_reducible rfl)
  try simp only [Act.put, List.setIfInBounds_toArray, List.set_cons_zero, List.set_cons_succ]
  -- 3: t8 := fieldAddr 41 t3 1 : 0
  refine wpB_take (i := 3) (v := ?_) (get_of_drop rfl) (by kernel_rfl) (by kernel_rfl) (by kernel_rfl) (by kernel_rfl) (fun _ _ _ h => h) (Or.inl ⟨by rfl, ?_⟩) hHeld ?_
  rotate_left
  · (intro w hSw; (try dsimp only at hSw); go_simp <;> with_reducible rfl)
  try simp only [Act.put, List.setIfInBounds_toArray, List.set_cons_zero, List.set_cons_succ]
  -- 4: t9 := load 3 t8 : 3
  refine wpB_take (i := 4) (v := ?_) (get_of_drop rfl) (by kernel_rfl) (by kernel_rfl) (by kernel_rfl) (by kernel_rfl) (fun _ _ _ h => h) (Or.inl ⟨by rfl, ?_⟩) hHeld ?_
  rotate_left
  · (intro w hSw; (try dsimp only at hSw); go_simp <;> with_reducible rfl)
  try simp only [Act.put, List.setIfInBounds_toArray, List.set_cons_zero, List.set_cons_succ]
  -- 5: t10 := CALL fn48(t7, t9) : 3
  refine wpB_act (i := 5) (by kernel_rfl) (get_of_drop rfl) (fun K hK => ?_)
  go_simp
  refine (prim_any (H.out.far hHeld) HOK.out.cfg.1 (msgR_num HMR.out).2.1).mono ?_
  rintro e' wy ⟨rfl, rfl⟩
  refine hK.out _ _ ?_ (fun hHeld2 => ?_)
  · first | assumption | exact Chg.alloc hHeld _
  clear hHeld hK K
  have hHeld := hHeld2
  clear hHeld2
  try simp only [Act.put, List.setIfInBounds_toArray, List.set_cons_zero, List.set_cons_succ]
  -- 6: t11 := binOp BinOp.neq 3 t6 t10 3 : 4
  refine wpB_take (i := 6) (v := ?_) (get_of_drop rfl) (by kernel_rfl) (by kernel_rfl) (by kernel_rfl) (by kernel_rfl) (fun _ _ _ h => h) (Or.inl ⟨by rfl, ?_⟩) hHeld ?_
  rotate_left
  · (intro w hSw; (try dsimp only at hSw); go_simp <;> with_reducible rfl)
  try simp only [Act.put, List.setIfInBounds_toArray, List.set_cons_zero, List.set_cons_succ]
  refine wpB_done (by kernel_rfl) ?_ _
  obtain ⟨w2, hdn⟩ : ∃ q_, q_ = w1.drew := ⟨_, rfl⟩
  rw [← hdn]
  replace K := hid (show Chg (fun j => M4 p b1 b2 b3 j ∨ O.ownBlock = some j) w w2 by rw [hdn]; exact K.out.drew)
  replace H := hid (show Rep w0 w2 p b1 b2 b3 X r A n c O by rw [hdn]; exact H.out.far ((Chg.refl (fun _ => False) w1).drew))
  replace BX := hid (show w2.heap[b]? = some (.cells #[.int .i64 m.kind, .int .i64 m.view, .int .i64 m.src, .int .i64 m.dst, .int .i64 m.op, .int .i64 m.commit, .int .i64 m.normal, .slice B k d] 41 (0, 0)) by rw [hdn]; exact blk_drew BX.out)
  replace BP := hid H.out.blk
  clear hdn hHeld
  clear hpr2 X_1 X_2
  have U_3 : ∀ wx, Chg (fun _ => False) w2 wx → wx.cell? ⟨p, 3, none⟩ = some (.int .i64 r.s.view) := fun wx hx => (cellAt (hx.blk BP.out (fun h => h)) 3).trans rfl
  have X_1 : ∀ wx, Chg (fun _ => False) w2 wx → wx.cell? ⟨b, 1, none⟩ = some (.int .i64 m.view) := fun wx hx => (cellAt (hx.blk BX.out (fun h => h)) 1).trans rfl
  go_wp2_with fail
  refine wpB_start (fun wx : World => Chg (fun _ => False) w2 wx) (by kernel_rfl) ?_
  have hHeld : (fun wx : World => Chg (fun _ => False) w2 wx) _ := (Chg.refl (fun _ => False) w2).drew
  -- 0: t12 := fieldAddr 41 t3 1 : 0
  refine wpB_take (i := 0) (v := ?_) (get_of_drop rfl) (by kernel_rfl) (by kernel_rfl) (by kernel_rfl) (by kernel_rfl) (fun _ _ _ h => h) (Or.inl ⟨by rfl, ?_⟩) hHeld ?_
  rotate_left
  · (intro w hSw; (try dsimp only at hSw); go_simp <;> with_reducible rfl)
  try simp only [Act.put, List.setIfInBounds_toArray, List.set_cons_zero, List.set_cons_succ]
  -- 1: t13 := load 3 t12 : 3
  refine wpB_take (i := 1) (v := ?_) (get_of_drop rfl) (by kernel_rfl) (by kernel_rfl) (by kernel_rfl) (by kernel_rfl) (fun _ _ _ h => h) (Or.inl ⟨by rfl, ?_⟩) hHeld ?_
  rotate_left
  · (intro w hSw; (try dsimp only at hSw); go_simp <;> with_reducible rfl)
  try simp only [Act.put, List.setIfInBounds_toArray, List.set_cons_zero, List.set_cons_succ]
  -- 2: t14 := move t0 : 30
  refine wpB_take (i := 2) (v := ?_) (get_of_drop rfl) (by kernel_rfl) (by kernel_rfl) (by kernel_rfl) (by kernel_rfl) (fun _ _ _ h => h) (Or.inl ⟨by rfl, ?_⟩) hHeld ?_
  rotate_left
  · (intro w hSw; (try dsimp only at hSw); go_simp <;> with_reducible rfl)
  try simp only [Act.put, List.setIfInBounds_toArray, List.set_cons_zero, List.set_cons_succ]
  -- 3: t15 := nilCheck t14 : 0
  refine wpB_take (i := 3) (v := ?_) (get_of_drop rfl) (by kernel_rfl) (by kernel_rfl) (by kernel_rfl) (by kernel_rfl) (fun _ _ _ h => h) (Or.inl ⟨by rfl, ?_⟩) hHeld ?_
  rotate_left
  · (intro w hSw; (try dsimp only at hSw); go_simp <;> with_reducible rfl)
  try simp only [Act.put, List.setIfInBounds_toArray, List.set_cons_zero, List.set_cons_succ]
  -- 4: t16 := fieldAddr 100 t15 1 : 0
  refine wpB_take (i := 4) (v := ?_) (get_of_drop rfl) (by kernel_rfl) (by kernel_rfl) (by kernel_rfl) (by kernel_rfl) (fun _ _ _ h => h) (Or.inl ⟨by rfl, ?_⟩) hHeld ?_
  rotate_left
  · (intro w hSw; (try dsimp only at hSw); go_simp <;> with_reducible rfl)
  try simp only [Act.put, List.setIfInBounds_toArray, List.set_cons_zero, List.set_cons_succ]
  -- 5: t17 := fieldAddr 26 t16 0 : 0
  refine wpB_take (i := 5) (v := ?_) (get_of_drop rfl) (by kernel_rfl) (by kernel_rfl) (by kernel_rfl) (by kernel_rfl) (fun _ _ _ h => h) (Or.inl ⟨by rfl, ?_⟩) hHeld ?_
  rotate_left
  · (intro w hSw; (try dsimp only at hSw); go_simp <;> with_reducible rfl)
  try simp only [Act.put, List.setIfInBounds_toArray, List.set_cons_zero, List.set_cons_succ]
  -- 6: t18 := load 3 t17 : 3
  refine wpB_take (i := 6) (v := ?_) (get_of_drop rfl) (by kernel_rfl) (by kernel_rfl) (by kernel_rfl) (by kernel_rfl) (fun _ _ _ h => h) (Or.inl ⟨by rfl, ?_⟩) hHeld ?_
  rotate_left
  · (intro w hSw; (try dsimp only at hSw); go_simp <;> with_reducible rfl)
  try simp only [Act.put, List.setIfInBounds_toArray, List.set_cons_zero, List.set_cons_succ]
  -- 7: t19 := binOp BinOp.gtr 3 t13 t18 3 : 4
  refine wpB_take (i := 7) (v := ?_) (get_of_drop rfl) (by kernel_rfl) (by kernel_rfl) (by kernel_rfl) (by kernel_rfl) (fun _ _ _ h => h) (Or.inl ⟨by rfl, ?_⟩) hHeld ?_
  rotate_left
  · (intro w hSw; (try dsimp only at hSw); go_simp <;> with_reducible rfl)
  try simp only [Act.put, List.setIfInBounds_toArray, List.set_cons_zero, List.set_cons_succ]
  refine wpB_done (by kernel_rfl) ?_ _
  obtain ⟨w3, hdn⟩ : ∃ q_, q_ = w2.drew := ⟨_, rfl⟩
  rw [← hdn]
  replace K := hid (show Chg (fun j => M4 p b1 b2 b3 j ∨ O.ownBlock = some j) w w3 by rw [hdn]; exact K.out.drew)
  replace H := hid (show Rep w0 w3 p b1 b2 b3 X r A n c O by rw [hdn]; exact H.out.far ((Chg.refl (fun _ => False) w2).drew))
  replace BX := hid (show w3.heap[b]? = some (.cells #[.int .i64 m.kind, .int .i64 m.view, .int .i64 m.src, .int .i64 m.dst, .int .i64 m.op, .int .i64 m.commit, .int .i64 m.normal, .slice B k d] 41 (0, 0)) by rw [hdn]; exact blk_drew BX.out)
  replace BP := hid H.out.blk
  clear hdn hHeld
  clear U_3 X_1
  by_cases hvv : r.s.view < m.view
  · have HVV := hid hvv
    have X_1 : w3.cell? ⟨b, 1, none⟩ = some (.int .i64 m.view) := (cellAt BX.out 1).trans rfl
    go_wp2_with fail
    clear X_1
    refine (enter_any H.out).mono ?_
    rintro e w4 ⟨rfl, h4, k4⟩
    replace H := hid h4
    replace BX := hid (k4.blk BX.out HM4.out)
    replace K := hid (K.out.trans k4 (fun j hj _ => .inl hj))
    replace BP := hid H.out.blk
    clear h4 k4
    have P_13 : w4.cell? ⟨p, 13, none⟩ = some (.int .i64 0) := (cellAt BP.out 13).trans rfl
    have F_13 : w4.frozen? ⟨p, 13, none⟩ = false := freeAt BP.out 13
    go_wp2_with fail
    obtain ⟨wt, hwt⟩ : ∃ q_, q_ = w4.setCell ⟨p, 13, none⟩ (.int .i64 0) := ⟨_, rfl⟩
    rw [← hwt]
    have KT := hid (show Chg (fun k => k = p) w4 wt by rw [hwt]; exact (Chg.refl (fun k => k = p) w4).set (fun _ => rfl) _)
    obtain ⟨rt, hrt⟩ : ∃ q_, q_ = { enterR r m.view with quiet := 0 } := ⟨_, rfl⟩
    replace H := hid (show Rep w0 wt p b1 b2 b3 X rt A n c O by rw [hrt]; exact H.out.put (r' := { enterR r m.view with quiet := 0 }) KT.out (by rw [hwt]; exact blk_set BP.out 13 _) rfl rfl rfl rfl rfl)
    replace BX := hid (KT.out.blk BX.out HPBN.out)
    replace K := hid (K.out.trans KT.out (fun j hj _ => .inl (.inl hj)))
    replace BP := hid H.out.blk
    have HCH := hid (show rt.ch = true by rw [hrt]; rfl)
    have HEQ := hid (show followR r m = follow4R (follow3R (follow2R rt m) m) m by rw [HFE.out]; unfold follow1R; rw [if_pos HVV.out, hrt])
    have HST := hid (show 0 ≤ rt.s.view ∧ rt.s.view ≤ 1099511627776 by rw [hrt]; exact (msgR_num HMR.out).2.1)
    have HCF := hid (show 0 ≤ rt.id ∧ rt.id ≤ 6 by rw [hrt]; have := HOK.out.cfg; show 0 ≤ r.id ∧ r.id ≤ 6; omega)
    have HOU := hid (show rt.out.length ≤ 710 by rw [hrt]; have := HO.out; show r.out.length ≤ 710; omega)
    obtain ⟨At, hAt⟩ : ∃ q_, q_ = A := ⟨_, rfl⟩
    obtain ⟨nt, hnt⟩ : ∃ q_, q_ = n := ⟨_, rfl⟩
    obtain ⟨ct, hct⟩ : ∃ q_, q_ = c := ⟨_, rfl⟩
    have HNT := hid (show nt ≤ 64 by rw [hnt]; exact HN64.out)
    have LT := hid (show nt = rt.s.log.length by rw [hnt, hrt]; exact L1.out)
    rw [← hAt, ← hnt, ← hct] at H BP
    clear hwt hrt hAt hnt hct P_13 F_13 hvv
    have U_8 : ∀ wx, Chg (fun _ => False) wt wx → wx.cell? ⟨p, 8, none⟩ = some (.bool true) := fun wx hx => by rw [← HCH.out]; exact (cellAt (hx.blk BP.out (fun h => h)) 8).trans rfl
    go_wp2_with fail
    refine wpB_start (fun wx : World => Chg (fun _ => False) wt wx) (by kernel_rfl) ?_
    have hHeld : (fun wx : World => Chg (fun _ => False) wt wx) _ := (Chg.refl (fun _ => False) wt).drew
    -- 0: t27 := move t0 : 30
    refine wpB_take (i := 0) (v := ?_) (get_of_drop rfl) (by kernel_rfl) (by kernel_rfl) (by kernel_rfl) (by kernel_rfl) (fun _ _ _ h => h) (Or.inl ⟨by rfl, ?_⟩) hHeld ?_
    rotate_left
    · (intro w hSw; (try dsimp only at hSw); go_simp <;> with_reducible rfl)
    try simp only [Act.put, List.setIfInBounds_toArray, List.set_cons_zero, List.set_cons_succ]
    -- 1: t28 := nilCheck t27 : 0
    refine wpB_take (i := 1) (v := ?_) (get_of_drop rfl) (by kernel_rfl) (by kernel_rfl) (by kernel_rfl) (by kernel_rfl) (fun _ _ _ h => h) (Or.inl ⟨by rfl, ?_⟩) hHeld ?_
    rotate_left
    · (intro w hSw; (try dsimp only at hSw); go_simp <;> with_reducible rfl)
    try simp only [Act.put, List.setIfInBounds_toArray, List.set_cons_zero, List.set_cons_succ]
    -- 2: t29 := fieldAddr 100 t28 2 : 0
    refine wpB_take (i := 2) (v := ?_) (get_of_drop rfl) (by kernel_rfl) (by kernel_rfl) (by kernel_rfl) (by kernel_rfl) (fun _ _ _ h => h) (Or.inl ⟨by rfl, ?_⟩) hHeld ?_
    rotate_left
    · (intro w hSw; (try dsimp only at hSw); go_simp <;> with_reducible rfl)
    try simp only [Act.put, List.setIfInBounds_toArray, List.set_cons_zero, List.set_cons_succ]
    -- 3: t30 := load 4 t29 : 4
    refine wpB_take (i := 3) (v := ?_) (get_of_drop rfl) (by kernel_rfl) (by kernel_rfl) (by kernel_rfl) (by kernel_rfl) (fun _ _ _ h => h) (Or.inl ⟨by rfl, ?_⟩) hHeld ?_
    rotate_left
    · (intro w hSw; (try dsimp only at hSw); go_simp <;> with_reducible rfl)
    try simp only [Act.put, List.setIfInBounds_toArray, List.set_cons_zero, List.set_cons_succ]
    -- 4: t31 := unOp UnOp.not 4 t30 : 4
    refine wpB_take (i := 4) (v := ?_) (get_of_drop rfl) (by kernel_rfl) (by kernel_rfl) (by kernel_rfl) (by kernel_rfl) (fun _ _ _ h => h) (Or.inl ⟨by rfl, ?_⟩) hHeld ?_
    rotate_left
    · (intro w hSw; (try dsimp only at hSw); go_simp <;> with_reducible rfl)
    try simp only [Act.put, List.setIfInBounds_toArray, List.set_cons_zero, List.set_cons_succ]
    -- 5: t32 := move t31 : 4
    refine wpB_take (i := 5) (v := ?_) (get_of_drop rfl) (by kernel_rfl) (by kernel_rfl) (by kernel_rfl) (by kernel_rfl) (fun _ _ _ h => h) (Or.inl ⟨by rfl, ?_⟩) hHeld ?_
    rotate_left
    · (intro w hSw; (try dsimp only at hSw); go_simp <;> with_reducible rfl)
    try simp only [Act.put, List.setIfInBounds_toArray, List.set_cons_zero, List.set_cons_succ]
    -- 6: t33 := fieldAddr 41 t3 0 : 0   [if ⟨5, true⟩]
    refine wpB_take (i := 6) (v := undef) (get_of_drop rfl) (by kernel_rfl) (by kernel_rfl) (by kernel_rfl) (by kernel_rfl) (fun _ _ _ h => h) (Or.inr ⟨by rfl, rfl⟩) hHeld ?_
    try simp only [Act.put, List.setIfInBounds_toArray, List.set_cons_zero, List.set_cons_succ]
    -- 7: t34 := load 3 t33 : 3   [if ⟨5, true⟩]
    refine wpB_take (i := 7) (v := undef) (get_of_drop rfl) (by kernel_rfl) (by kernel_rfl) (by kernel_rfl) (by kernel_rfl) (fun _ _ _ h => h) (Or.inr ⟨by rfl, rfl⟩) hHeld ?_
    try simp only [Act.put, List.setIfInBounds_toArray, List.set_cons_zero, List.set_cons_succ]
    -- 8: t35 := binOp BinOp.eql 3 t34 #i64:1 3 : 4   [if ⟨5, true⟩]
    refine wpB_take (i := 8) (v := undef) (get_of_drop rfl) (by kernel_rfl) (by kernel_rfl) (by kernel_rfl) (by kernel_rfl) (fun _ _ _ h => h) (Or.inr ⟨by rfl, rfl⟩) hHeld ?_
    try simp only [Act.put, List.setIfInBounds_toArray, List.set_cons_zero, List.set_cons_succ]
    -- 9: t36 := pick t32 t35 #false : 4
    refine wpB_take (i := 9) (v := ?_) (get_of_drop rfl) (by kernel_rfl) (by kernel_rfl) (by kernel_rfl) (by kernel_rfl) (fun _ _ _ h => h) (Or.inl ⟨by rfl, ?_⟩) hHeld ?_
    rotate_left
    · (intro w hSw; (try dsimp only at hSw); go_simp <;> with_reducible rfl)
    try simp only [Act.put, List.setIfInBounds_toArray, List.set_cons_zero, List.set_cons_succ]
    -- 10: t37 := move t36 : 4
    refine wpB_take (i := 10) (v := ?_) (get_of_drop rfl) (by kernel_rfl) (by kernel_rfl) (by kernel_rfl) (by kernel_rfl) (fun _ _ _ h => h) (Or.inl ⟨by rfl, ?_⟩) hHeld ?_
    rotate_left
    · (intro w hSw; (try dsimp only at hSw); go_simp <;> with_reducible rfl)
    try simp only [Act.put, List.setIfInBounds_toArray, List.set_cons_zero, List.set_cons_succ]
    -- 11: t38 := fieldAddr 41 t3 4 : 0   [if ⟨10, true⟩]
    refine wpB_take (i := 11) (v := undef) (get_of_drop rfl) (by kernel_rfl) (by kernel_rfl) (by kernel_rfl) (by kernel_rfl) (fun _ _ _ h => h) (Or.inr ⟨by rfl, rfl⟩) hHeld ?_
    try simp only [Act.put, List.setIfInBounds_toArray, List.set_cons_zero, List.set_cons_succ]
    -- 12: t39 := load 3 t38 : 3   [if ⟨10, true⟩]
    refine wpB_take (i := 12) (v := undef) (get_of_drop rfl) (by kernel_rfl) (by kernel_rfl) (by kernel_rfl) (by kernel_rfl) (fun _ _ _ h => h) (Or.inr ⟨by rfl, rfl⟩) hHeld ?_
    try simp only [Act.put, List.setIfInBounds_toArray, List.set_cons_zero, List.set_cons_succ]
    -- 13: t40 := move t0 : 30   [if ⟨10, true⟩]
    refine wpB_take (i := 13) (v := undef) (get_of_drop rfl) (by kernel_rfl) (by kernel_rfl) (by kernel_rfl) (by kernel_rfl) (fun _ _ _ h => h) (Or.inr ⟨by rfl, rfl⟩) hHeld ?_
    try simp only [Act.put, List.setIfInBounds_toArray, List.set_cons_zero, List.set_cons_succ]
    -- 14: t41 := CALL fn76(t40) : 3   [if ⟨10, true⟩]
    refine wpB_take (i := 14) (v := undef) (get_of_drop rfl) (by kernel_rfl) (by kernel_rfl) (by kernel_rfl) (by kernel_rfl) (fun _ _ _ h => h) (Or.inr ⟨by rfl, rfl⟩) hHeld ?_
    try simp only [Act.put, List.setIfInBounds_toArray, List.set_cons_zero, List.set_cons_succ]
    -- 15: t42 := binOp BinOp.add 3 t41 #i64:1 3 : 3   [if ⟨10, true⟩]
    refine wpB_take (i := 15) (v := undef) (get_of_drop rfl) (by kernel_rfl) (by kernel_rfl) (by kernel_rfl) (by kernel_rfl) (fun _ _ _ h => h) (Or.inr ⟨by rfl, rfl⟩) hHeld ?_
    try simp only [Act.put, List.setIfInBounds_toArray, List.set_cons_zero, List.set_cons_succ]
    -- 16: t43 := binOp BinOp.eql 3 t39 t42 3 : 4   [if ⟨10, true⟩]
    refine wpB_take (i := 16) (v := undef) (get_of_drop rfl) (by kernel_rfl) (by kernel_rfl) (by kernel_rfl) (by kernel_rfl) (fun _ _ _ h => h) (Or.inr ⟨by rfl, rfl⟩) hHeld ?_
    try simp only [Act.put, List.setIfInBounds_toArray, List.set_cons_zero, List.set_cons_succ]
    -- 17: t44 := pick t37 t43 #false : 4
    refine wpB_take (i := 17) (v := ?_) (get_of_drop rfl) (by kernel_rfl) (by kernel_rfl) (by kernel_rfl) (by kernel_rfl) (fun _ _ _ h => h) (Or.inl ⟨by rfl, ?_⟩) hHeld ?_
    rotate_left
    · (intro w hSw; (try dsimp only at hSw); go_simp <;> with_reducible rfl)
    try simp only [Act.put, List.setIfInBounds_toArray, List.set_cons_zero, List.set_cons_succ]
    refine wpB_done (by kernel_rfl) ?_ _
    obtain ⟨w5, hdn⟩ : ∃ q_, q_ = wt.drew := ⟨_, rfl⟩
    rw [← hdn]
    replace K := hid (show Chg (fun j => M4 p b1 b2 b3 j ∨ O.ownBlock = some j) w w5 by rw [hdn]; exact K.out.drew)
    replace H := hid (show Rep w0 w5 p b1 b2 b3 X rt At nt ct O by rw [hdn]; exact H.out.far ((Chg.refl (fun _ => False) wt).drew))
    replace BX := hid (show w5.heap[b]? = some (.cells #[.int .i64 m.kind, .int .i64 m.view, .int .i64 m.src, .int .i64 m.dst, .int .i64 m.op, .int .i64 m.commit, .int .i64 m.normal, .slice B k d] 41 (0, 0)) by rw [hdn]; exact blk_drew BX.out)
    replace BP := hid H.out.blk
    clear hdn hHeld
    clear U_8
    have U_8 : ∀ wx, Chg (fun _ => False) w5 wx → wx.cell? ⟨p, 8, none⟩ = some (.bool true) := fun wx hx => by rw [← HCH.out]; exact (cellAt (hx.blk BP.out (fun h => h)) 8).trans rfl
    go_wp2_with fail
    refine wpB_start (fun wx : World => Chg (fun _ => False) w5 wx) (by kernel_rfl) ?_
    have hHeld : (fun wx : World => Chg (fun _ => False) w5 wx) _ := (Chg.refl (fun _ => False) w5).drew
    -- 0: t59 := move t0 : 30
    refine wpB_take (i := 0) (v := ?_) (get_of_drop rfl) (by kernel_rfl) (by kernel_rfl) (by kernel_rfl) (by kernel_rfl) (fun _ _ _ h => h) (Or.inl ⟨by rfl, ?_⟩) hHeld ?_
    rotate_left
    · (intro w hSw; (try dsimp only at hSw); go_simp <;> with_reducible rfl)
    try simp only [Act.put, List.setIfInBounds_toArray, List.set_cons_zero, List.set_cons_succ]
    -- 1: t60 := nilCheck t59 : 0
    refine wpB_take (i := 1) (v := ?_) (get_of_drop rfl) (by kernel_rfl) (by kernel_rfl) (by kernel_rfl) (by kernel_rfl) (fun _ _ _ h => h) (Or.inl ⟨by rfl, ?_⟩) hHeld ?_
    rotate_left
    · (intro w hSw; (try dsimp only at hSw); go_simp <;> with_reducible rfl)
    try simp only [Act.put, List.setIfInBounds_toArray, List.set_cons_zero, List.set_cons_succ]
    -- 2: t61 := fieldAddr 100 t60 2 : 0
    refine wpB_take (i := 2) (v := ?_) (get_of_drop rfl) (by kernel_rfl) (by kernel_rfl) (by kernel_rfl) (by kernel_rfl) (fun _ _ _ h => h) (Or.inl ⟨by rfl, ?_⟩) hHeld ?_
    rotate_left
    · (intro w hSw; (try dsimp only at hSw); go_simp <;> with_reducible rfl)
    try simp only [Act.put, List.setIfInBounds_toArray, List.set_cons_zero, List.set_cons_succ]
    -- 3: t62 := load 4 t61 : 4
    refine wpB_take (i := 3) (v := ?_) (get_of_drop rfl) (by kernel_rfl) (by kernel_rfl) (by kernel_rfl) (by kernel_rfl) (fun _ _ _ h => h) (Or.inl ⟨by rfl, ?_⟩) hHeld ?_
    rotate_left
    · (intro w hSw; (try dsimp only at hSw); go_simp <;> with_reducible rfl)
    try simp only [Act.put, List.setIfInBounds_toArray, List.set_cons_zero, List.set_cons_succ]
    -- 4: t63 := move t62 : 4
    refine wpB_take (i := 4) (v := ?_) (get_of_drop rfl) (by kernel_rfl) (by kernel_rfl) (by kernel_rfl) (by kernel_rfl) (fun _ _ _ h => h) (Or.inl ⟨by rfl, ?_⟩) hHeld ?_
    rotate_left
    · (intro w hSw; (try dsimp only at hSw); go_simp <;> with_reducible rfl)
    try simp only [Act.put, List.setIfInBounds_toArray, List.set_cons_zero, List.set_cons_succ]
    -- 5: t64 := fieldAddr 41 t3 4 : 0   [if ⟨4, false⟩]
    refine wpB_take (i := 5) (v := undef) (get_of_drop rfl) (by kernel_rfl) (by kernel_rfl) (by kernel_rfl) (by kernel_rfl) (fun _ _ _ h => h) (Or.inr ⟨by rfl, rfl⟩) hHeld ?_
    try simp only [Act.put, List.setIfInBounds_toArray, List.set_cons_zero, List.set_cons_succ]
    -- 6: t65 := load 3 t64 : 3   [if ⟨4, false⟩]
    refine wpB_take (i := 6) (v := undef) (get_of_drop rfl) (by kernel_rfl) (by kernel_rfl) (by kernel_rfl) (by kernel_rfl) (fun _ _ _ h => h) (Or.inr ⟨by rfl, rfl⟩) hHeld ?_
    try simp only [Act.put, List.setIfInBounds_toArray, List.set_cons_zero, List.set_cons_succ]
    -- 7: t66 := move t0 : 30   [if ⟨4, false⟩]
    refine wpB_take (i := 7) (v := undef) (get_of_drop rfl) (by kernel_rfl) (by kernel_rfl) (by kernel_rfl) (by kernel_rfl) (fun _ _ _ h => h) (Or.inr ⟨by rfl, rfl⟩) hHeld ?_
    try simp only [Act.put, List.setIfInBounds_toArray, List.set_cons_zero, List.set_cons_succ]
    -- 8: t67 := CALL fn76(t66) : 3   [if ⟨4, false⟩]
    refine wpB_take (i := 8) (v := undef) (get_of_drop rfl) (by kernel_rfl) (by kernel_rfl) (by kernel_rfl) (by kernel_rfl) (fun _ _ _ h => h) (Or.inr ⟨by rfl, rfl⟩) hHeld ?_
    try simp only [Act.put, List.setIfInBounds_toArray, List.set_cons_zero, List.set_cons_succ]
    -- 9: t68 := binOp BinOp.gtr 3 t65 t67 3 : 4   [if ⟨4, false⟩]
    refine wpB_take (i := 9) (v := undef) (get_of_drop rfl) (by kernel_rfl) (by kernel_rfl) (by kernel_rfl) (by kernel_rfl) (fun _ _ _ h => h) (Or.inr ⟨by rfl, rfl⟩) hHeld ?_
    try simp only [Act.put, List.setIfInBounds_toArray, List.set_cons_zero, List.set_cons_succ]
    -- 10: t69 := pick t63 #true t68 : 4
    refine wpB_take (i := 10) (v := ?_) (get_of_drop rfl) (by kernel_rfl) (by kernel_rfl) (by kernel_rfl) (by kernel_rfl) (fun _ _ _ h => h) (Or.inl ⟨by rfl, ?_⟩) hHeld ?_
    rotate_left
    · (intro w hSw; (try dsimp only at hSw); go_simp <;> with_reducible rfl)
    try simp only [Act.put, List.setIfInBounds_toArray, List.set_cons_zero, List.set_cons_succ]
    refine wpB_done (by kernel_rfl) ?_ _
    obtain ⟨w7, hdn⟩ : ∃ q_, q_ = w5.drew := ⟨_, rfl⟩
    rw [← hdn]
    replace K := hid (show Chg (fun j => M4 p b1 b2 b3 j ∨ O.ownBlock = some j) w w7 by rw [hdn]; exact K.out.drew)
    replace H := hid (show Rep w0 w7 p b1 b2 b3 X rt At nt ct O by rw [hdn]; exact H.out.far ((Chg.refl (fun _ => False) w5).drew))
    replace BX := hid (show w7.heap[b]? = some (.cells #[.int .i64 m.kind, .int .i64 m.view, .int .i64 m.src, .int .i64 m.dst, .int .i64 m.op, .int .i64 m.commit, .int .i64 m.normal, .slice B k d] 41 (0, 0)) by rw [hdn]; exact blk_drew BX.out)
    replace BP := hid H.out.blk
    clear hdn hHeld
    clear U_8
    have X_2 : ∀ wx, Chg (fun _ => False) w7 wx → wx.cell? ⟨b, 2, none⟩ = some (.int .i64 m.src) := fun wx hx => (cellAt (hx.blk BX.out (fun h => h)) 2).trans rfl
    go_wp2_with fail
    refine wpB_start (fun wx : World => Chg (fun _ => False) w7 wx) (by kernel_rfl) ?_
    have hHeld : (fun wx : World => Chg (fun _ => False) w7 wx) _ := (Chg.refl (fun _ => False) w7).drew
    -- 0: t70 := move t0 : 30
    refine wpB_take (i := 0) (v := ?_) (get_of_drop rfl) (by kernel_rfl) (by kernel_rfl) (by kernel_rfl) (by kernel_rfl) (fun _ _ _ h => h) (Or.inl ⟨by rfl, ?_⟩) hHeld ?_
    rotate_left
    · (intro w hSw; (try dsimp only at hSw); go_simp <;> with_reducible rfl)
    try simp only [Act.put, List.setIfInBounds_toArray, List.set_cons_zero, List.set_cons_succ]
    -- 1: t71 := fieldAddr 41 t3 2 : 0
    refine wpB_take (i := 1) (v := ?_) (get_of_drop rfl) (by kernel_rfl) (by kernel_rfl) (by kernel_rfl) (by kernel_rfl) (fun _ _ _ h => h) (Or.inl ⟨by rfl, ?_⟩) hHeld ?_
    rotate_left
    · (intro w hSw; (try dsimp only at hSw); go_simp <;> with_reducible rfl)
    try simp only [Act.put, List.setIfInBounds_toArray, List.set_cons_zero, List.set_cons_succ]
    -- 2: t72 := load 3 t71 : 3
    refine wpB_take (i := 2) (v := ?_) (get_of_drop rfl) (by kernel_rfl) (by kernel_rfl) (by kernel_rfl) (by kernel_rfl) (fun _ _ _ h => h) (Or.inl ⟨by rfl, ?_⟩) hHeld ?_
    rotate_left
    · (intro w hSw; (try dsimp only at hSw); go_simp <;> with_reducible rfl)
    try simp only [Act.put, List.setIfInBounds_toArray, List.set_cons_zero, List.set_cons_succ]
    -- 3: t73 := move t0 : 30
    refine wpB_take (i := 3) (v := ?_) (get_of_drop rfl) (by kernel_rfl) (by kernel_rfl) (by kernel_rfl) (by kernel_rfl) (fun _ _ _ h => h) (Or.inl ⟨by rfl, ?_⟩) hHeld ?_
    rotate_left
    · (intro w hSw; (try dsimp only at hSw); go_simp <;> with_reducible rfl)
    try simp only [Act.put, List.setIfInBounds_toArray, List.set_cons_zero, List.set_cons_succ]
    -- 4: t74 := CALL fn76(t73) : 3
    refine wpB_act (i := 4) (by kernel_rfl) (get_of_drop rfl) (fun K hK => ?_)
    go_simp
    refine (length_any (H.out.far hHeld) HNT.out).mono ?_
    rintro e' wy ⟨rfl, rfl⟩
    refine hK.out _ _ ?_ (fun hHeld2 => ?_)
    · first | assumption | exact Chg.alloc hHeld _
    clear hHeld hK K
    have hHeld := hHeld2
    clear hHeld2
    try simp only [Act.put, List.setIfInBounds_toArray, List.set_cons_zero, List.set_cons_succ]
    -- 5: t75 := build 41 [⟨0, #i64:7⟩, ⟨4, t74⟩] : 41
    refine wpB_take (i := 5) (v := ?_) (get_of_drop rfl) (by kernel_rfl) (by kernel_rfl) (by kernel_rfl) (by kernel_rfl) (fun _ _ _ h => h) (Or.inl ⟨by rfl, ?_⟩) hHeld ?_
    rotate_left
    · (intro w hSw; (try dsimp only at hSw); go_simp <;> with_reducible rfl)
    try simp only [Act.put, List.setIfInBounds_toArray, List.set_cons_zero, List.set_cons_succ]
    -- 6: t76 := CALL fn53(t70, t72, t75) : 0 (BARRIER)
    refine wpB_bar (i := 6) (by kernel_rfl) (get_of_drop rfl) (by kernel_rfl) (fun K hK => ?_)
    go_simp
    refine (send_any (m := msgOp 7 nt) (R := fun _ => False) (H.out.far hHeld) (at_nil_ _ _ _) (by decide) (by intro e he; cases he) (numW_msgOp (by decide) (numW_of (by have := HNT.out; omega))) ⟨numW_of (by have := HST.out; show _ ≤ rt.s.view ∧ rt.s.view ≤ _; omega), numW_of (by have := HCF.out; show _ ≤ rt.id ∧ rt.id ≤ _; omega), HSW.out⟩ (by have := HOU.out; show rt.out.length ≤ _; omega)).mono ?_
    rintro e' wg ⟨O', rfl, hg, hog, kg⟩
    have HG := hid hg
    have HOG := hid hog
    have KG := hid kg
    clear hg hog kg
    refine hK.out _ _ (fun _ : World => True) ?_
    clear hHeld hK K
    have hHeld := trivial
    try simp only [Act.put, List.setIfInBounds_toArray, List.set_cons_zero, List.set_cons_succ]
    refine wpB_done (by kernel_rfl) ?_ _
    clear X_2 hHeld
    have BPG := hid HG.out.blk
    have P_8 : wg.cell? ⟨p, 8, none⟩ = some (.bool true) := by rw [← HCH.out]; exact (cellAt BPG.out 8).trans rfl
    have HFR := hid (show followR r m = sendR rt m.src (msgOp 7 (nt : Int)) by
      rw [HEQ.out]
      unfold follow2R
      rw [if_neg (fun h => by rw [HCH.out] at h; exact absurd h.1 (by decide))]
      unfold follow3R
      rw [if_pos (.inl HCH.out)]
      unfold follow4R
      rw [if_pos (show (sendR rt m.src (msgOp 7 (rt.s.log.length : Int))).ch = true from HCH.out), LT.out])
    go_wp2_with fail
    go_end0
    rw [HFR.out]
    refine ⟨At, nt, ct, O', rfl, HG.out, fun j hj => (HOG.out j hj).imp id (fun h => Nat.le_trans K.out.size h), K.out.drew.trans (KG.out) (fun j hj hl => ?_)⟩
    rcases hj with h | h
    · exact .inl (.inl h)
    · exact .inr h
  · have HVV := hid hvv
    have P_13 : w3.cell? ⟨p, 13, none⟩ = some (.int .i64 r.quiet) := (cellAt BP.out 13).trans rfl
    have F_13 : w3.frozen? ⟨p, 13, none⟩ = false := freeAt BP.out 13
    go_wp2_with fail
    obtain ⟨wt, hwt⟩ : ∃ q_, q_ = w3.setCell ⟨p, 13, none⟩ (.int .i64 0) := ⟨_, rfl⟩
    rw [← hwt]
    have KT := hid (show Chg (fun k => k = p) w3 wt by rw [hwt]; exact (Chg.refl (fun k => k = p) w3).set (fun _ => rfl) _)
    obtain ⟨rt, hrt⟩ : ∃ q_, q_ = { r with quiet := 0 } := ⟨_, rfl⟩
    replace H := hid (show Rep w0 wt p b1 b2 b3 X rt A n c O by rw [hrt]; exact H.out.put (r' := { r with quiet := 0 }) KT.out (by rw [hwt]; exact blk_set BP.out 13 _) rfl rfl rfl rfl rfl)
    replace BX := hid (KT.out.blk BX.out HPBN.out)
    replace K := hid (K.out.trans KT.out (fun j hj _ => .inl (.inl hj)))
    replace BP := hid H.out.blk
    have HEQ := hid (show followR r m = follow4R (follow3R (follow2R rt m) m) m by rw [HFE.out]; unfold follow1R; rw [if_neg (by have := HVV.out; omega), hrt])
    have HOKT := hid (show RpOk rt by rw [hrt]; exact HOK.out.qt 0)
    have HST := hid HOKT.out.stn.1
    have HCF := hid (show 0 ≤ rt.id ∧ rt.id ≤ 6 by have := HOKT.out.cfg; omega)
    have HOU := hid (show rt.out.length ≤ 710 by rw [hrt]; have := HO.out; show r.out.length ≤ 710; omega)
    obtain ⟨At, hAt⟩ : ∃ q_, q_ = A := ⟨_, rfl⟩
    obtain ⟨nt, hnt⟩ : ∃ q_, q_ = n := ⟨_, rfl⟩
    obtain ⟨ct, hct⟩ : ∃ q_, q_ = c := ⟨_, rfl⟩
    have HNT := hid (show nt ≤ 64 by rw [hnt]; exact HN64.out)
    have LT := hid (show nt = rt.s.log.length by rw [hnt, hrt]; exact L1.out)
    rw [← hAt, ← hnt, ← hct] at H BP
    clear hwt hrt hAt hnt hct P_13 F_13 hvv
    cases hch : rt.ch
    case true =>
      have HCH := hid hch
      clear hch
      have U_8 : ∀ wx, Chg (fun _ => False) wt wx → wx.cell? ⟨p, 8, none⟩ = some (.bool true) := fun wx hx => by rw [← HCH.out]; exact (cellAt (hx.blk BP.out (fun h => h)) 8).trans rfl
      go_wp2_with fail
      refine wpB_start (fun wx : World => Chg (fun _ => False) wt wx) (by kernel_rfl) ?_
      have hHeld : (fun wx : World => Chg (fun _ => False) wt wx) _ := (Chg.refl (fun _ => False) wt).drew
      -- 0: t27 := move t0 : 30
      refine wpB_take (i := 0) (v := ?_) (get_of_drop rfl) (by kernel_rfl) (by kernel_rfl) (by kernel_rfl) (by kernel_rfl) (fun _ _ _ h => h) (Or.inl ⟨by rfl, ?_⟩) hHeld ?_
      rotate_left
      · (intro w hSw; (try dsimp only at hSw); go_simp <;> with_reducible rfl)
      try simp only [Act.put, List.setIfInBounds_toArray, List.set_cons_zero, List.set_cons_succ]
      -- 1: t28 := nilCheck t27 : 0
      refine wpB_take (i := 1) (v := ?_) (get_of_drop rfl) (by kernel_rfl) (by kernel_rfl) (by kernel_rfl) (by kernel_rfl) (fun _ _ _ h => h) (Or.inl ⟨by rfl, ?_⟩) hHeld ?_
      rotate_left
      · (intro w hSw; (try dsimp only at hSw); go_simp <;> with_reducible rfl)
      try simp only [Act.put, List.setIfInBounds_toArray, List.set_cons_zero, List.set_cons_succ]
      -- 2: t29 := fieldAddr 100 t28 2 : 0
      refine wpB_take (i := 2) (v := ?_) (get_of_drop rfl) (by kernel_rfl) (by kernel_rfl) (by kernel_rfl) (by kernel_rfl) (fun _ _ _ h => h) (Or.inl ⟨by rfl, ?_⟩) hHeld ?_
      rotate_left
      · (intro w hSw; (try dsimp only at hSw); go_simp <;> with_reducible rfl)
      try simp only [Act.put, List.setIfInBounds_toArray, List.set_cons_zero, List.set_cons_succ]
      -- 3: t30 := load 4 t29 : 4
      refine wpB_take (i := 3) (v := ?_) (get_of_drop rfl) (by kernel_rfl) (by kernel_rfl) (by kernel_rfl) (by kernel_rfl) (fun _ _ _ h => h) (Or.inl ⟨by rfl, ?_⟩) hHeld ?_
      rotate_left
      · (intro w hSw; (try dsimp only at hSw); go_simp <;> with_reducible rfl)
      try simp only [Act.put, List.setIfInBounds_toArray, List.set_cons_zero, List.set_cons_succ]
      -- 4: t31 := unOp UnOp.not 4 t30 : 4
      refine wpB_take (i := 4) (v := ?_) (get_of_drop rfl) (by kernel_rfl) (by kernel_rfl) (by kernel_rfl) (by kernel_rfl) (fun _ _ _ h => h) (Or.inl ⟨by rfl, ?_⟩) hHeld ?_
      rotate_left
      · (intro w hSw; (try dsimp only at hSw); go_simp <;> with_reducible rfl)
      try simp only [Act.put, List.setIfInBounds_toArray, List.set_cons_zero, List.set_cons_succ]
      -- 5: t32 := move t31 : 4
      refine wpB_take (i := 5) (v := ?_) (get_of_drop rfl) (by kernel_rfl) (by kernel_rfl) (by kernel_rfl) (by kernel_rfl) (fun _ _ _ h => h) (Or.inl ⟨by rfl, ?_⟩) hHeld ?_
      rotate_left
      · (intro w hSw; (try dsimp only at hSw); go_simp <;> with_reducible rfl)
      try simp only [Act.put, List.setIfInBounds_toArray, List.set_cons_zero, List.set_cons_succ]
      -- 6: t33 := fieldAddr 41 t3 0 : 0   [if ⟨5, true⟩]
      refine wpB_take (i := 6) (v := undef) (get_of_drop rfl) (by kernel_rfl) (by kernel_rfl) (by kernel_rfl) (by kernel_rfl) (fun _ _ _ h => h) (Or.inr ⟨by rfl, rfl⟩) hHeld ?_
      try simp only [Act.put, List.setIfInBounds_toArray, List.set_cons_zero, List.set_cons_succ]
      -- 7: t34 := load 3 t33 : 3   [if ⟨5, true⟩]
      refine wpB_take (i := 7) (v := undef) (get_of_drop rfl) (by kernel_rfl) (by kernel_rfl) (by kernel_rfl) (by kernel_rfl) (fun _ _ _ h => h) (Or.inr ⟨by rfl, rfl⟩) hHeld ?_
      try simp only [Act.put, List.setIfInBounds_toArray, List.set_cons_zero, List.set_cons_succ]
      -- 8: t35 := binOp BinOp.eql 3 t34 #i64:1 3 : 4   [if ⟨5, true⟩]
      refine wpB_take (i := 8) (v := undef) (get_of_drop rfl) (by kernel_rfl) (by kernel_rfl) (by kernel_rfl) (by kernel_rfl) (fun _ _ _ h => h) (Or.inr ⟨by rfl, rfl⟩) hHeld ?_
      try simp only [Act.put, List.setIfInBounds_toArray, List.set_cons_zero, List.set_cons_succ]
      -- 9: t36 := pick t32 t35 #false : 4
      refine wpB_take (i := 9) (v := ?_) (get_of_drop rfl) (by kernel_rfl) (by kernel_rfl) (by kernel_rfl) (by kernel_rfl) (fun _ _ _ h => h) (Or.inl ⟨by rfl, ?_⟩) hHeld ?_
      rotate_left
      · (intro w hSw; (try dsimp only at hSw); go_simp <;> with_reducible rfl)
      try simp only [Act.put, List.setIfInBounds_toArray, List.set_cons_zero, List.set_cons_succ]
      -- 10: t37 := move t36 : 4
      refine wpB_take (i := 10) (v := ?_) (get_of_drop rfl) (by kernel_rfl) (by kernel_rfl) (by kernel_rfl) (by kernel_rfl) (fun _ _ _ h => h) (Or.inl ⟨by rfl, ?_⟩) hHeld ?_
      rotate_left
      · (intro w hSw; (try dsimp only at hSw); go_simp <;> with_reducible rfl)
      try simp only [Act.put, List.setIfInBounds_toArray, List.set_cons_zero, List.set_cons_succ]
      -- 11: t38 := fieldAddr 41 t3 4 : 0   [if ⟨10, true⟩]
      refine wpB_take (i := 11) (v := undef) (get_of_drop rfl) (by kernel_rfl) (by kernel_rfl) (by kernel_rfl) (by kernel_rfl) (fun _ _ _ h => h) (Or.inr ⟨by rfl, rfl⟩) hHeld ?_
      try simp only [Act.put, List.setIfInBounds_toArray, List.set_cons_zero, List.set_cons_succ]
      -- 12: t39 := load 3 t38 : 3   [if ⟨10, true⟩]
      refine wpB_take (i := 12) (v := undef) (get_of_drop rfl) (by kernel_rfl) (by kernel_rfl) (by kernel_rfl) (by kernel_rfl) (fun _ _ _ h => h) (Or.inr ⟨by rfl, rfl⟩) hHeld ?_
      try simp only [Act.put, List.setIfInBounds_toArray, List.set_cons_zero, List.set_cons_succ]
      -- 13: t40 := move t0 : 30   [if ⟨10, true⟩]
      refine wpB_take (i := 13) (v := undef) (get_of_drop rfl) (by kernel_rfl) (by kernel_rfl) (by kernel_rfl) (by kernel_rfl) (fun _ _ _ h => h) (Or.inr ⟨by rfl, rfl⟩) hHeld ?_
      try simp only [Act.put, List.setIfInBounds_toArray, List.set_cons_zero, List.set_cons_succ]
      -- 14: t41 := CALL fn76(t40) : 3   [if ⟨10, true⟩]
      refine wpB_take (i := 14) (v := undef) (get_of_drop rfl) (by kernel_rfl) (by kernel_rfl) (by kernel_rfl) (by kernel_rfl) (fun _ _ _ h => h) (Or.inr ⟨by rfl, rfl⟩) hHeld ?_
      try simp only [Act.put, List.setIfInBounds_toArray, List.set_cons_zero, List.set_cons_succ]
      -- 15: t42 := binOp BinOp.add 3 t41 #i64:1 3 : 3   [if ⟨10, true⟩]
      refine wpB_take (i := 15) (v := undef) (get_of_drop rfl) (by kernel_rfl) (by kernel_rfl) (by kernel_rfl) (by kernel_rfl) (fun _ _ _ h => h) (Or.inr ⟨by rfl, rfl⟩) hHeld ?_
      try simp only [Act.put, List.setIfInBounds_toArray, List.set_cons_zero, List.set_cons_succ]
      -- 16: t43 := binOp BinOp.eql 3 t39 t42 3 : 4   [if ⟨10, true⟩]
      refine wpB_take (i := 16) (v := undef) (get_of_drop rfl) (by kernel_rfl) (by kernel_rfl) (by kernel_rfl) (by kernel_rfl) (fun _ _ _ h => h) (Or.inr ⟨by rfl, rfl⟩) hHeld ?_
      try simp only [Act.put, List.setIfInBounds_toArray, List.set_cons_zero, List.set_cons_succ]
      -- 17: t44 := pick t37 t43 #false : 4
      refine wpB_take (i := 17) (v := ?_) (get_of_drop rfl) (by kernel_rfl) (by kernel_rfl) (by kernel_rfl) (by kernel_rfl) (fun _ _ _ h => h) (Or.inl ⟨by rfl, ?_⟩) hHeld ?_
      rotate_left
      · (intro w hSw; (try dsimp only at hSw); go_simp <;> with_reducible rfl)
      try simp only [Act.put, List.setIfInBounds_toArray, List.set_cons_zero, List.set_cons_succ]
      refine wpB_done (by kernel_rfl) ?_ _
      obtain ⟨w5, hdn⟩ : ∃ q_, q_ = wt.drew := ⟨_, rfl⟩
      rw [← hdn]
      replace K := hid (show Chg (fun j => M4 p b1 b2 b3 j ∨ O.ownBlock = some j) w w5 by rw [hdn]; exact K.out.drew)
      replace H := hid (show Rep w0 w5 p b1 b2 b3 X rt At nt ct O by rw [hdn]; exact H.out.far ((Chg.refl (fun _ => False) wt).drew))
      replace BX := hid (show w5.heap[b]? = some (.cells #[.int .i64 m.kind, .int .i64 m.view, .int .i64 m.src, .int .i64 m.dst, .int .i64 m.op, .int .i64 m.commit, .int .i64 m.normal, .slice B k d] 41 (0, 0)) by rw [hdn]; exact blk_drew BX.out)
      replace BP := hid H.out.blk
      clear hdn hHeld
      clear U_8
      have U_8 : ∀ wx, Chg (fun _ => False) w5 wx → wx.cell? ⟨p, 8, none⟩ = some (.bool true) := fun wx hx => by rw [← HCH.out]; exact (cellAt (hx.blk BP.out (fun h => h)) 8).trans rfl
      go_wp2_with fail
      refine wpB_start (fun wx : World => Chg (fun _ => False) w5 wx) (by kernel_rfl) ?_
      have hHeld : (fun wx : World => Chg (fun _ => False) w5 wx) _ := (Chg.refl (fun _ => False) w5).drew
      -- 0: t59 := move t0 : 30
      refine wpB_take (i := 0) (v := ?_) (get_of_drop rfl) (by kernel_rfl) (by kernel_rfl) (by kernel_rfl) (by kernel_rfl) (fun _ _ _ h => h) (Or.inl ⟨by rfl, ?_⟩) hHeld ?_
      rotate_left
      · (intro w hSw; (try dsimp only at hSw); go_simp <;> with_reducible rfl)
      try simp only [Act.put, List.setIfInBounds_toArray, List.set_cons_zero, List.set_cons_succ]
      -- 1: t60 := nilCheck t59 : 0
      refine wpB_take (i := 1) (v := ?_) (get_of_drop rfl) (by kernel_rfl) (by kernel_rfl) (by kernel_rfl) (by kernel_rfl) (fun _ _ _ h => h) (Or.inl ⟨by rfl, ?_⟩) hHeld ?_
      rotate_left
      · (intro w hSw; (try dsimp only at hSw); go_simp <;> with_reducible rfl)
      try simp only [Act.put, List.setIfInBounds_toArray, List.set_cons_zero, List.set_cons_succ]
      -- 2: t61 := fieldAddr 100 t60 2 : 0
      refine wpB_take (i := 2) (v := ?_) (get_of_drop rfl) (by kernel_rfl) (by kernel_rfl) (by kernel_rfl) (by kernel_rfl) (fun _ _ _ h => h) (Or.inl ⟨by rfl, ?_⟩) hHeld ?_
      rotate_left
      · (intro w hSw; (try dsimp only at hSw); go_simp <;> with_reducible rfl)
      try simp only [Act.put, List.setIfInBounds_toArray, List.set_cons_zero, List.set_cons_succ]
      -- 3: t62 := load 4 t61 : 4
      refine wpB_take (i := 3) (v := ?_) (get_of_drop rfl) (by kernel_rfl) (by kernel_rfl) (by kernel_rfl) (by kernel_rfl) (fun _ _ _ h => h) (Or.inl ⟨by rfl, ?_⟩) hHeld ?_
      rotate_left
      · (intro w hSw; (try dsimp only at hSw); go_simp <;> with_reducible rfl)
      try simp only [Act.put, List.setIfInBounds_toArray, List.set_cons_zero, List.set_cons_succ]
      -- 4: t63 := move t62 : 4
      refine wpB_take (i := 4) (v := ?_) (get_of_drop rfl) (by kernel_rfl) (by kernel_rfl) (by kernel_rfl) (by kernel_rfl) (fun _ _ _ h => h) (Or.inl ⟨by rfl, ?_⟩) hHeld ?_
      rotate_left
      · (intro w hSw; (try dsimp only at hSw); go_simp <;> with_reducible rfl)
      try simp only [Act.put, List.setIfInBounds_toArray, List.set_cons_zero, List.set_cons_succ]
      -- 5: t64 := fieldAddr 41 t3 4 : 0   [if ⟨4, false⟩]
      refine wpB_take (i := 5) (v := undef) (get_of_drop rfl) (by kernel_rfl) (by kernel_rfl) (by kernel_rfl) (by kernel_rfl) (fun _ _ _ h => h) (Or.inr ⟨by rfl, rfl⟩) hHeld ?_
      try simp only [Act.put, List.setIfInBounds_toArray, List.set_cons_zero, List.set_cons_succ]
      -- 6: t65 := load 3 t64 : 3   [if ⟨4, false⟩]
      refine wpB_take (i := 6) (v := undef) (get_of_drop rfl) (by kernel_rfl) (by kernel_rfl) (by kernel_rfl) (by kernel_rfl) (fun _ _ _ h => h) (Or.inr ⟨by rfl, rfl⟩) hHeld ?_
      try simp only [Act.put, List.setIfInBounds_toArray, List.set_cons_zero, List.set_cons_succ]
      -- 7: t66 := move t0 : 30   [if ⟨4, false⟩]
      refine wpB_take (i := 7) (v := undef) (get_of_drop rfl) (by kernel_rfl) (by kernel_rfl) (by kernel_rfl) (by kernel_rfl) (fun _ _ _ h => h) (Or.inr ⟨by rfl, rfl⟩) hHeld ?_
      try simp only [Act.put, List.setIfInBounds_toArray, List.set_cons_zero, List.set_cons_succ]
      -- 8: t67 := CALL fn76(t66) : 3   [if ⟨4, false⟩]
      refine wpB_take (i := 8) (v := undef) (get_of_drop rfl) (by kernel_rfl) (by kernel_rfl) (by kernel_rfl) (by kernel_rfl) (fun _ _ _ h => h) (Or.inr ⟨by rfl, rfl⟩) hHeld ?_
      try simp only [Act.put, List.setIfInBounds_toArray, List.set_cons_zero, List.set_cons_succ]
      -- 9: t68 := binOp BinOp.gtr 3 t65 t67 3 : 4   [if ⟨4, false⟩]
      refine wpB_take (i := 9) (v := undef) (get_of_drop rfl) (by kernel_rfl) (by kernel_rfl) (by kernel_rfl) (by kernel_rfl) (fun _ _ _ h => h) (Or.inr ⟨by rfl, rfl⟩) hHeld ?_
      try simp only [Act.put, List.setIfInBounds_toArray, List.set_cons_zero, List.set_cons_succ]
      -- 10: t69 := pick t63 #true t68 : 4
      refine wpB_take (i := 10) (v := ?_) (get_of_drop rfl) (by kernel_rfl) (by kernel_rfl) (by kernel_rfl) (by kernel_rfl) (fun _ _ _ h => h) (Or.inl ⟨by rfl, ?_⟩) hHeld ?_
      rotate_left
      · (intro w hSw; (try dsimp only at hSw); go_simp <;> with_reducible rfl)
      try simp only [Act.put, List.setIfInBounds_toArray, List.set_cons_zero, List.set_cons_succ]
      refine wpB_done (by kernel_rfl) ?_ _
      obtain ⟨w7, hdn⟩ : ∃ q_, q_ = w5.drew := ⟨_, rfl⟩
      rw [← hdn]
      replace K := hid (show Chg (fun j => M4 p b1 b2 b3 j ∨ O.ownBlock = some j) w w7 by rw [hdn]; exact K.out.drew)
      replace H := hid (show Rep w0 w7 p b1 b2 b3 X rt At nt ct O by rw [hdn]; exact H.out.far ((Chg.refl (fun _ => False) w5).drew))
      replace BX := hid (show w7.heap[b]? = some (.cells #[.int .i64 m.kind, .int .i64 m.view, .int .i64 m.src, .int .i64 m.dst, .int .i64 m.op, .int .i64 m.commit, .int .i64 m.normal, .slice B k d] 41 (0, 0)) by rw [hdn]; exact blk_drew BX.out)
      replace BP := hid H.out.blk
      clear hdn hHeld
      clear U_8
      have X_2 : ∀ wx, Chg (fun _ => False) w7 wx → wx.cell? ⟨b, 2, none⟩ = some (.int .i64 m.src) := fun wx hx => (cellAt (hx.blk BX.out (fun h => h)) 2).trans rfl
      go_wp2_with fail
      refine wpB_start (fun wx : World => Chg (fun _ => False) w7 wx) (by kernel_rfl) ?_
      have hHeld : (fun wx : World => Chg (fun _ => False) w7 wx) _ := (Chg.refl (fun _ => False) w7).drew
      -- 0: t70 := move t0 : 30
      refine wpB_take (i := 0) (v := ?_) (get_of_drop rfl) (by kernel_rfl) (by kernel_rfl) (by kernel_rfl) (by kernel_rfl) (fun _ _ _ h => h) (Or.inl ⟨by rfl, ?_⟩) hHeld ?_
      rotate_left
      · (intro w hSw; (try dsimp only at hSw); go_simp <;> with_reducible rfl)
      try simp only [Act.put, List.setIfInBounds_toArray, List.set_cons_zero, List.set_cons_succ]
      -- 1: t71 := fieldAddr 41 t3 2 : 0
      refine wpB_take (i := 1) (v := ?_) (get_of_drop rfl) (by kernel_rfl) (by kernel_rfl) (by kernel_rfl) (by kernel_rfl) (fun _ _ _ h => h) (Or.inl ⟨by rfl, ?_⟩) hHeld ?_
      rotate_left
      · (intro w hSw; (try dsimp only at hSw); go_simp <;> with_reducible rfl)
      try simp only [Act.put, List.setIfInBounds_toArray, List.set_cons_zero, List.set_cons_succ]
      -- 2: t72 := load 3 t71 : 3
      refine wpB_take (i := 2) (v := ?_) (get_of_drop rfl) (by kernel_rfl) (by kernel_rfl) (by kernel_rfl) (by kernel_rfl) (fun _ _ _ h => h) (Or.inl ⟨by rfl, ?_⟩) hHeld ?_
      rotate_left
      · (intro w hSw; (try dsimp only at hSw); go_simp <;> with_reducible rfl)
      try simp only [Act.put, List.setIfInBounds_toArray, List.set_cons_zero, List.set_cons_succ]
      -- 3: t73 := move t0 : 30
      refine wpB_take (i := 3) (v := ?_) (get_of_drop rfl) (by kernel_rfl) (by kernel_rfl) (by kernel_rfl) (by kernel_rfl) (fun _ _ _ h => h) (Or.inl ⟨by rfl, ?_⟩) hHeld ?_
      rotate_left
      · (intro w hSw; (try dsimp only at hSw); go_simp <;> with_reducible rfl)
      try simp only [Act.put, List.setIfInBounds_toArray, List.set_cons_zero, List.set_cons_succ]
      -- 4: t74 := CALL fn76(t73) : 3
      refine wpB_act (i := 4) (by kernel_rfl) (get_of_drop rfl) (fun K hK => ?_)
      go_simp
      refine (length_any (H.out.far hHeld) HNT.out).mono ?_
      rintro e' wy ⟨rfl, rfl⟩
      refine hK.out _ _ ?_ (fun hHeld2 => ?_)
      · first | assumption | exact Chg.alloc hHeld _
      clear hHeld hK K
      have hHeld := hHeld2
      clear hHeld2
      try simp only [Act.put, List.setIfInBounds_toArray, List.set_cons_zero, List.set_cons_succ]
      -- 5: t75 := build 41 [⟨0, #i64:7⟩, ⟨4, t74⟩] : 41
      refine wpB_take (i := 5) (v := ?_) (get_of_drop rfl) (by kernel_rfl) (by kernel_rfl) (by kernel_rfl) (by kernel_rfl) (fun _ _ _ h => h) (Or.inl ⟨by rfl, ?_⟩) hHeld ?_
      rotate_left
      · (intro w hSw; (try dsimp only at hSw); go_simp <;> with_reducible rfl)
      try simp only [Act.put, List.setIfInBounds_toArray, List.set_cons_zero, List.set_cons_succ]
      -- 6: t76 := CALL fn53(t70, t72, t75) : 0 (BARRIER)
      refine wpB_bar (i := 6) (by kernel_rfl) (get_of_drop rfl) (by kernel_rfl) (fun K hK => ?_)
      go_simp
      refine (send_any (m := msgOp 7 nt) (R := fun _ => False) (H.out.far hHeld) (at_nil_ _ _ _) (by decide) (by intro e he; cases he) (numW_msgOp (by decide) (numW_of (by have := HNT.out; omega))) ⟨numW_of (by have := HST.out; show _ ≤ rt.s.view ∧ rt.s.view ≤ _; omega), numW_of (by have := HCF.out; show _ ≤ rt.id ∧ rt.id ≤ _; omega), HSW.out⟩ (by have := HOU.out; show rt.out.length ≤ _; omega)).mono ?_
      rintro e' wg ⟨O', rfl, hg, hog, kg⟩
      have HG := hid hg
      have HOG := hid hog
      have KG := hid kg
      clear hg hog kg
      refine hK.out _ _ (fun _ : World => True) ?_
      clear hHeld hK K
      have hHeld := trivial
      try simp only [Act.put, List.setIfInBounds_toArray, List.set_cons_zero, List.set_cons_succ]
      refine wpB_done (by kernel_rfl) ?_ _
      clear X_2 hHeld
      have BPG := hid HG.out.blk
      have P_8 : wg.cell? ⟨p, 8, none⟩ = some (.bool true) := by rw [← HCH.out]; exact (cellAt BPG.out 8).trans rfl
      have HFR := hid (show followR r m = sendR rt m.src (msgOp 7 (nt : Int)) by
        rw [HEQ.out]
        unfold follow2R
        rw [if_neg (fun h => by rw [HCH.out] at h; exact absurd h.1 (by decide))]
        unfold follow3R
        rw [if_pos (.inl HCH.out)]
        unfold follow4R
        rw [if_pos (show (sendR rt m.src (msgOp 7 (rt.s.log.length : Int))).ch = true from HCH.out), LT.out])
      go_wp2_with fail
      go_end0
      rw [HFR.out]
      refine ⟨At, nt, ct, O', rfl, HG.out, fun j hj => (HOG.out j hj).imp id (fun h => Nat.le_trans K.out.size h), K.out.drew.trans (KG.out) (fun j hj hl => ?_)⟩
      rcases hj with h | h
      · exact .inl (.inl h)
      · exact .inr h
    have HCH := hid hch
    clear hch
    have U_8 : ∀ wx, Chg (fun _ => False) wt wx → wx.cell? ⟨p, 8, none⟩ = some (.bool false) := fun wx hx => by rw [← HCH.out]; exact (cellAt (hx.blk BP.out (fun h => h)) 8).trans rfl
    have X_0 : ∀ wx, Chg (fun _ => False) wt wx → wx.cell? ⟨b, 0, none⟩ = some (.int .i64 m.kind) := fun wx hx => (cellAt (hx.blk BX.out (fun h => h)) 0).trans rfl
    have X_4 : ∀ wx, Chg (fun _ => False) wt wx → wx.cell? ⟨b, 4, none⟩ = some (.int .i64 m.op) := fun wx hx => (cellAt (hx.blk BX.out (fun h => h)) 4).trans rfl
    by_cases hk1 : m.kind = 1
    case neg =>
      have hk2 : (m.kind == 1) = false := by simp [hk1]
      have HK1 := hid hk1
      clear hk1
      go_wp2_with fail
      refine wpB_start (fun wx : World => Chg (fun _ => False) wt wx) (by kernel_rfl) ?_
      have hHeld : (fun wx : World => Chg (fun _ => False) wt wx) _ := (Chg.refl (fun _ => False) wt).drew
      -- 0: t27 := move t0 : 30
      refine wpB_take (i := 0) (v := ?_) (get_of_drop rfl) (by kernel_rfl) (by kernel_rfl) (by kernel_rfl) (by kernel_rfl) (fun _ _ _ h => h) (Or.inl ⟨by rfl, ?_⟩) hHeld ?_
      rotate_left
      · (intro w hSw; (try dsimp only at hSw); go_simp <;> with_reducible rfl)
      try simp only [Act.put, List.setIfInBounds_toArray, List.set_cons_zero, List.set_cons_succ]
      -- 1: t28 := nilCheck t27 : 0
      refine wpB_take (i := 1) (v := ?_) (get_of_drop rfl) (by kernel_rfl) (by kernel_rfl) (by kernel_rfl) (by kernel_rfl) (fun _ _ _ h => h) (Or.inl ⟨by rfl, ?_⟩) hHeld ?_
      rotate_left
      · (intro w hSw; (try dsimp only at hSw); go_simp <;> with_reducible rfl)
      try simp only [Act.put, List.setIfInBounds_toArray, List.set_cons_zero, List.set_cons_succ]
      -- 2: t29 := fieldAddr 100 t28 2 : 0
      refine wpB_take (i := 2) (v := ?_) (get_of_drop rfl) (by kernel_rfl) (by kernel_rfl) (by kernel_rfl) (by kernel_rfl) (fun _ _ _ h => h) (Or.inl ⟨by rfl, ?_⟩) hHeld ?_
      rotate_left
      · (intro w hSw; (try dsimp only at hSw); go_simp <;> with_reducible rfl)
      try simp only [Act.put, List.setIfInBounds_toArray, List.set_cons_zero, List.set_cons_succ]
      -- 3: t30 := load 4 t29 : 4
      refine wpB_take (i := 3) (v := ?_) (get_of_drop rfl) (by kernel_rfl) (by kernel_rfl) (by kernel_rfl) (by kernel_rfl) (fun _ _ _ h => h) (Or.inl ⟨by rfl, ?_⟩) hHeld ?_
      rotate_left
      · (intro w hSw; (try dsimp only at hSw); go_simp <;> with_reducible rfl)
      try simp only [Act.put, List.setIfInBounds_toArray, List.set_cons_zero, List.set_cons_succ]
      -- 4: t31 := unOp UnOp.not 4 t30 : 4
      refine wpB_take (i := 4) (v := ?_) (get_of_drop rfl) (by kernel_rfl) (by kernel_rfl) (by kernel_rfl) (by kernel_rfl) (fun _ _ _ h => h) (Or.inl ⟨by rfl, ?_⟩) hHeld ?_
      rotate_left
      · (intro w hSw; (try dsimp only at hSw); go_simp <;> with_reducible rfl)
      try simp only [Act.put, List.setIfInBounds_toArray, List.set_cons_zero, List.set_cons_succ]
      -- 5: t32 := move t31 : 4
      refine wpB_take (i := 5) (v := ?_) (get_of_drop rfl) (by kernel_rfl) (by kernel_rfl) (by kernel_rfl) (by kernel_rfl) (fun _ _ _ h => h) (Or.inl ⟨by rfl, ?_⟩) hHeld ?_
      rotate_left
      · (intro w hSw; (try dsimp only at hSw); go_simp <;> with_reducible rfl)
      try simp only [Act.put, List.setIfInBounds_toArray, List.set_cons_zero, List.set_cons_succ]
      -- 6: t33 := fieldAddr 41 t3 0 : 0   [if ⟨5, true⟩]
      refine wpB_take (i := 6) (v := ?_) (get_of_drop rfl) (by kernel_rfl) (by kernel_rfl) (by kernel_rfl) (by kernel_rfl) (fun _ _ _ h => h) (Or.inl ⟨by rfl, ?_⟩) hHeld ?_
      rotate_left
      · (intro w hSw; (try dsimp only at hSw); go_simp <;> with_reducible rfl)
      try simp only [Act.put, List.setIfInBounds_toArray, List.set_cons_zero, List.set_cons_succ]
      -- 7: t34 := load 3 t33 : 3   [if ⟨5, true⟩]
      refine wpB_take (i := 7) (v := ?_) (get_of_drop rfl) (by kernel_rfl) (by kernel_rfl) (by kernel_rfl) (by kernel_rfl) (fun _ _ _ h => h) (Or.inl ⟨by rfl, ?_⟩) hHeld ?_
      rotate_left
      · (intro w hSw; (try dsimp only at hSw); go_simp <;> with_reducible rfl)
      try simp only [Act.put, List.setIfInBounds_toArray, List.set_cons_zero, List.set_cons_succ]
      -- 8: t35 := binOp BinOp.eql 3 t34 #i64:1 3 : 4   [if ⟨5, true⟩]
      refine wpB_take (i := 8) (v := ?_) (get_of_drop rfl) (by kernel_rfl) (by kernel_rfl) (by kernel_rfl) (by kernel_rfl) (fun _ _ _ h => h) (Or.inl ⟨by rfl, ?_⟩) hHeld ?_
      rotate_left
      · (intro w hSw; (try dsimp only at hSw); go_simp <;> with_reducible rfl)
      try simp only [Act.put, List.setIfInBounds_toArray, List.set_cons_zero, List.set_cons_succ]
      -- 9: t36 := pick t32 t35 #false : 4
      refine wpB_take (i := 9) (v := ?_) (get_of_drop rfl) (by kernel_rfl) (by kernel_rfl) (by kernel_rfl) (by kernel_rfl) (fun _ _ _ h => h) (Or.inl ⟨by rfl, ?_⟩) hHeld ?_
      rotate_left
      · (intro w hSw; (try dsimp only at hSw); go_simp <;> with_reducible rfl)
      try simp only [Act.put, List.setIfInBounds_toArray, List.set_cons_zero, List.set_cons_succ]
      -- 10: t37 := move t36 : 4
      refine wpB_take (i := 10) (v := ?_) (get_of_drop rfl) (by kernel_rfl) (by kernel_rfl) (by kernel_rfl) (by kernel_rfl) (fun _ _ _ h => h) (Or.inl ⟨by rfl, ?_⟩) hHeld ?_
      rotate_left
      · (intro w hSw; (try dsimp only at hSw); go_simp <;> with_reducible rfl)
      try simp only [Act.put, List.setIfInBounds_toArray, List.set_cons_zero, List.set_cons_succ]
      -- 11: t38 := fieldAddr 41 t3 4 : 0   [if ⟨10, true⟩]
      refine wpB_take (i := 11) (v := undef) (get_of_drop rfl) (by kernel_rfl) (by kernel_rfl) (by kernel_rfl) (by kernel_rfl) (fun _ _ _ h => h) (Or.inr ⟨by rfl, rfl⟩) hHeld ?_
      try simp only [Act.put, List.setIfInBounds_toArray, List.set_cons_zero, List.set_cons_succ]
      -- 12: t39 := load 3 t38 : 3   [if ⟨10, true⟩]
      refine wpB_take (i := 12) (v := undef) (get_of_drop rfl) (by kernel_rfl) (by kernel_rfl) (by kernel_rfl) (by kernel_rfl) (fun _ _ _ h => h) (Or.inr ⟨by rfl, rfl⟩) hHeld ?_
      try simp only [Act.put, List.setIfInBounds_toArray, List.set_cons_zero, List.set_cons_succ]
      -- 13: t40 := move t0 : 30   [if ⟨10, true⟩]
      refine wpB_take (i := 13) (v := undef) (get_of_drop rfl) (by kernel_rfl) (by kernel_rfl) (by kernel_rfl) (by kernel_rfl) (fun _ _ _ h => h) (Or.inr ⟨by rfl, rfl⟩) hHeld ?_
      try simp only [Act.put, List.setIfInBounds_toArray, List.set_cons_zero, List.set_cons_succ]
      -- 14: t41 := CALL fn76(t40) : 3   [if ⟨10, true⟩]
      refine wpB_take (i := 14) (v := undef) (get_of_drop rfl) (by kernel_rfl) (by kernel_rfl) (by kernel_rfl) (by kernel_rfl) (fun _ _ _ h => h) (Or.inr ⟨by rfl, rfl⟩) hHeld ?_
      try simp only [Act.put, List.setIfInBounds_toArray, List.set_cons_zero, List.set_cons_succ]
      -- 15: t42 := binOp BinOp.add 3 t41 #i64:1 3 : 3   [if ⟨10, true⟩]
      refine wpB_take (i := 15) (v := undef) (get_of_drop rfl) (by kernel_rfl) (by kernel_rfl) (by kernel_rfl) (by kernel_rfl) (fun _ _ _ h => h) (Or.inr ⟨by rfl, rfl⟩) hHeld ?_
      try simp only [Act.put, List.setIfInBounds_toArray, List.set_cons_zero, List.set_cons_succ]
      -- 16: t43 := binOp BinOp.eql 3 t39 t42 3 : 4   [if ⟨10, true⟩]
      refine wpB_take (i := 16) (v := undef) (get_of_drop rfl) (by kernel_rfl) (by kernel_rfl) (by kernel_rfl) (by kernel_rfl) (fun _ _ _ h => h) (Or.inr ⟨by rfl, rfl⟩) hHeld ?_
      try simp only [Act.put, List.setIfInBounds_toArray, List.set_cons_zero, List.set_cons_succ]
      -- 17: t44 := pick t37 t43 #false : 4
      refine wpB_take (i := 17) (v := ?_) (get_of_drop rfl) (by kernel_rfl) (by kernel_rfl) (by kernel_rfl) (by kernel_rfl) (fun _ _ _ h => h) (Or.inl ⟨by rfl, ?_⟩) hHeld ?_
      rotate_left
      · (intro w hSw; (try dsimp only at hSw); go_simp <;> with_reducible rfl)
      try simp only [Act.put, List.setIfInBounds_toArray, List.set_cons_zero, List.set_cons_succ]
      refine wpB_done (by kernel_rfl) ?_ _
      obtain ⟨w6, hdn⟩ : ∃ q_, q_ = wt.drew := ⟨_, rfl⟩
      rw [← hdn]
      replace K := hid (show Chg (fun j => M4 p b1 b2 b3 j ∨ O.ownBlock = some j) w w6 by rw [hdn]; exact K.out.drew)
      replace H := hid (show Rep w0 w6 p b1 b2 b3 X rt At nt ct O by rw [hdn]; exact H.out.far ((Chg.refl (fun _ => False) wt).drew))
      replace BX := hid (show w6.heap[b]? = some (.cells #[.int .i64 m.kind, .int .i64 m.view, .int .i64 m.src, .int .i64 m.dst, .int .i64 m.op, .int .i64 m.commit, .int .i64 m.normal, .slice B k d] 41 (0, 0)) by rw [hdn]; exact blk_drew BX.out)
      replace BP := hid H.out.blk
      clear hdn hHeld
      clear U_8 X_0 X_4 hk2
      have HEQ2 := hid (show followR r m = follow4R (follow3R rt m) m by rw [HEQ.out]; unfold follow2R; rw [if_neg (fun h => HK1.out h.2.1)])
      have U_8 : ∀ wx, Chg (fun _ => False) w6 wx → wx.cell? ⟨p, 8, none⟩ = some (.bool false) := fun wx hx => by rw [← HCH.out]; exact (cellAt (hx.blk BP.out (fun h => h)) 8).trans rfl
      have X_4 : ∀ wx, Chg (fun _ => False) w6 wx → wx.cell? ⟨b, 4, none⟩ = some (.int .i64 m.op) := fun wx hx => (cellAt (hx.blk BX.out (fun h => h)) 4).trans rfl
      go_wp2_with fail
      refine wpB_start (fun wx : World => Chg (fun _ => False) w6 wx) (by kernel_rfl) ?_
      have hHeld : (fun wx : World => Chg (fun _ => False) w6 wx) _ := (Chg.refl (fun _ => False) w6).drew
      -- 0: t59 := move t0 : 30
      refine wpB_take (i := 0) (v := ?_) (get_of_drop rfl) (by kernel_rfl) (by kernel_rfl) (by kernel_rfl) (by kernel_rfl) (fun _ _ _ h => h) (Or.inl ⟨by rfl, ?_⟩) hHeld ?_
      rotate_left
      · (intro w hSw; (try dsimp only at hSw); go_simp <;> with_reducible rfl)
      try simp only [Act.put, List.setIfInBounds_toArray, List.set_cons_zero, List.set_cons_succ]
      -- 1: t60 := nilCheck t59 : 0
      refine wpB_take (i := 1) (v := ?_) (get_of_drop rfl) (by kernel_rfl) (by kernel_rfl) (by kernel_rfl) (by kernel_rfl) (fun _ _ _ h => h) (Or.inl ⟨by rfl, ?_⟩) hHeld ?_
      rotate_left
      · (intro w hSw; (try dsimp only at hSw); go_simp <;> with_reducible rfl)
      try simp only [Act.put, List.setIfInBounds_toArray, List.set_cons_zero, List.set_cons_succ]
      -- 2: t61 := fieldAddr 100 t60 2 : 0
      refine wpB_take (i := 2) (v := ?_) (get_of_drop rfl) (by kernel_rfl) (by kernel_rfl) (by kernel_rfl) (by kernel_rfl) (fun _ _ _ h => h) (Or.inl ⟨by rfl, ?_⟩) hHeld ?_
      rotate_left
      · (intro w hSw; (try dsimp only at hSw); go_simp <;> with_reducible rfl)
      try simp only [Act.put, List.setIfInBounds_toArray, List.set_cons_zero, List.set_cons_succ]
      -- 3: t62 := load 4 t61 : 4
      refine wpB_take (i := 3) (v := ?_) (get_of_drop rfl) (by kernel_rfl) (by kernel_rfl) (by kernel_rfl) (by kernel_rfl) (fun _ _ _ h => h) (Or.inl ⟨by rfl, ?_⟩) hHeld ?_
      rotate_left
      · (intro w hSw; (try dsimp only at hSw); go_simp <;> with_reducible rfl)
      try simp only [Act.put, List.setIfInBounds_toArray, List.set_cons_zero, List.set_cons_succ]
      -- 4: t63 := move t62 : 4
      refine wpB_take (i := 4) (v := ?_) (get_of_drop rfl) (by kernel_rfl) (by kernel_rfl) (by kernel_rfl) (by kernel_rfl) (fun _ _ _ h => h) (Or.inl ⟨by rfl, ?_⟩) hHeld ?_
      rotate_left
      · (intro w hSw; (try dsimp only at hSw); go_simp <;> with_reducible rfl)
      try simp only [Act.put, List.setIfInBounds_toArray, List.set_cons_zero, List.set_cons_succ]
      -- 5: t64 := fieldAddr 41 t3 4 : 0   [if ⟨4, false⟩]
      refine wpB_take (i := 5) (v := ?_) (get_of_drop rfl) (by kernel_rfl) (by kernel_rfl) (by kernel_rfl) (by kernel_rfl) (fun _ _ _ h => h) (Or.inl ⟨by rfl, ?_⟩) hHeld ?_
      rotate_left
      · (intro w hSw; (try dsimp only at hSw); go_simp <;> with_reducible rfl)
      try simp only [Act.put, List.setIfInBounds_toArray, List.set_cons_zero, List.set_cons_succ]
      -- 6: t65 := load 3 t64 : 3   [if ⟨4, false⟩]
      refine wpB_take (i := 6) (v := ?_) (get_of_drop rfl) (by kernel_rfl) (by kernel_rfl) (by kernel_rfl) (by kernel_rfl) (fun _ _ _ h => h) (Or.inl ⟨by rfl, ?_⟩) hHeld ?_
      rotate_left
      · (intro w hSw; (try dsimp only at hSw); go_simp <;> with_reducible rfl)
      try simp only [Act.put, List.setIfInBounds_toArray, List.set_cons_zero, List.set_cons_succ]
      -- 7: t66 := move t0 : 30   [if ⟨4, false⟩]
      refine wpB_take (i := 7) (v := ?_) (get_of_drop rfl) (by kernel_rfl) (by kernel_rfl) (by kernel_rfl) (by kernel_rfl) (fun _ _ _ h => h) (Or.inl ⟨by rfl, ?_⟩) hHeld ?_
      rotate_left
      · (intro w hSw; (try dsimp only at hSw); go_simp <;> with_reducible rfl)
      try simp only [Act.put, List.setIfInBounds_toArray, List.set_cons_zero, List.set_cons_succ]
      -- 8: t67 := CALL fn76(t66) : 3   [if ⟨4, false⟩]
      refine wpB_act (i := 8) (by kernel_rfl) (get_of_drop rfl) (fun K hK => ?_)
      go_simp
      refine (length_any (H.out.far hHeld) HNT.out).mono ?_
      rintro e' wy ⟨rfl, rfl⟩
      refine hK.out _ _ ?_ (fun hHeld2 => ?_)
      · first | assumption | exact Chg.alloc hHeld _
      clear hHeld hK K
      have hHeld := hHeld2
      clear hHeld2
      try simp only [Act.put, List.setIfInBounds_toArray, List.set_cons_zero, List.set_cons_succ]
      -- 9: t68 := binOp BinOp.gtr 3 t65 t67 3 : 4   [if ⟨4, false⟩]
      refine wpB_take (i := 9) (v := ?_) (get_of_drop rfl) (by kernel_rfl) (by kernel_rfl) (by kernel_rfl) (by kernel_rfl) (fun _ _ _ h => h) (Or.inl ⟨by rfl, ?_⟩) hHeld ?_
      rotate_left
      · (intro w hSw; (try dsimp only at hSw); go_simp <;> with_reducible rfl)
      try simp only [Act.put, List.setIfInBounds_toArray, List.set_cons_zero, List.set_cons_succ]
      -- 10: t69 := pick t63 #true t68 : 4
      refine wpB_take (i := 10) (v := ?_) (get_of_drop rfl) (by kernel_rfl) (by kernel_rfl) (by kernel_rfl) (by kernel_rfl) (fun _ _ _ h => h) (Or.inl ⟨by rfl, ?_⟩) hHeld ?_
      rotate_left
      · (intro w hSw; (try dsimp only at hSw); go_simp <;> with_reducible rfl)
      try simp only [Act.put, List.setIfInBounds_toArray, List.set_cons_zero, List.set_cons_succ]
      refine wpB_done (by kernel_rfl) ?_ _
      obtain ⟨w7, hdn⟩ : ∃ q_, q_ = w6.drew := ⟨_, rfl⟩
      rw [← hdn]
      replace K := hid (show Chg (fun j => M4 p b1 b2 b3 j ∨ O.ownBlock = some j) w w7 by rw [hdn]; exact K.out.drew)
      replace H := hid (show Rep w0 w7 p b1 b2 b3 X rt At nt ct O by rw [hdn]; exact H.out.far ((Chg.refl (fun _ => False) w6).drew))
      replace BX := hid (show w7.heap[b]? = some (.cells #[.int .i64 m.kind, .int .i64 m.view, .int .i64 m.src, .int .i64 m.dst, .int .i64 m.op, .int .i64 m.commit, .int .i64 m.normal, .slice B k d] 41 (0, 0)) by rw [hdn]; exact blk_drew BX.out)
      replace BP := hid H.out.blk
      clear hdn hHeld
      clear U_8 X_4
      by_cases hop : (nt : Int) < m.op
      · have HOP := hid hop
        have X_2 : ∀ wx, Chg (fun _ => False) w7 wx → wx.cell? ⟨b, 2, none⟩ = some (.int .i64 m.src) := fun wx hx => (cellAt (hx.blk BX.out (fun h => h)) 2).trans rfl
        go_wp2_with fail
        refine wpB_start (fun wx : World => Chg (fun _ => False) w7 wx) (by kernel_rfl) ?_
        have hHeld : (fun wx : World => Chg (fun _ => False) w7 wx) _ := (Chg.refl (fun _ => False) w7).drew
        -- 0: t70 := move t0 : 30
        refine wpB_take (i := 0) (v := ?_) (get_of_drop rfl) (by kernel_rfl) (by kernel_rfl) (by kernel_rfl) (by kernel_rfl) (fun _ _ _ h => h) (Or.inl ⟨by rfl, ?_⟩) hHeld ?_
        rotate_left
        · (intro w hSw; (try dsimp only at hSw); go_simp <;> with_reducible rfl)
        try simp only [Act.put, List.setIfInBounds_toArray, List.set_cons_zero, List.set_cons_succ]
        -- 1: t71 := fieldAddr 41 t3 2 : 0
        refine wpB_take (i := 1) (v := ?_) (get_of_drop rfl) (by kernel_rfl) (by kernel_rfl) (by kernel_rfl) (by kernel_rfl) (fun _ _ _ h => h) (Or.inl ⟨by rfl, ?_⟩) hHeld ?_
        rotate_left
        · (intro w hSw; (try dsimp only at hSw); go_simp <;> with_reducible rfl)
        try simp only [Act.put, List.setIfInBounds_toArray, List.set_cons_zero, List.set_cons_succ]
        -- 2: t72 := load 3 t71 : 3
        refine wpB_take (i := 2) (v := ?_) (get_of_drop rfl) (by kernel_rfl) (by kernel_rfl) (by kernel_rfl) (by kernel_rfl) (fun _ _ _ h => h) (Or.inl ⟨by rfl, ?_⟩) hHeld ?_
        rotate_left
        · (intro w hSw; (try dsimp only at hSw); go_simp <;> with_reducible rfl)
        try simp only [Act.put, List.setIfInBounds_toArray, List.set_cons_zero, List.set_cons_succ]
        -- 3: t73 := move t0 : 30
        refine wpB_take (i := 3) (v := ?_) (get_of_drop rfl) (by kernel_rfl) (by kernel_rfl) (by kernel_rfl) (by kernel_rfl) (fun _ _ _ h => h) (Or.inl ⟨by rfl, ?_⟩) hHeld ?_
        rotate_left
        · (intro w hSw; (try dsimp only at hSw); go_simp <;> with_reducible rfl)
        try simp only [Act.put, List.setIfInBounds_toArray, List.set_cons_zero, List.set_cons_succ]
        -- 4: t74 := CALL fn76(t73) : 3
        refine wpB_act (i := 4) (by kernel_rfl) (get_of_drop rfl) (fun K hK => ?_)
        go_simp
        refine (length_any (H.out.far hHeld) HNT.out).mono ?_
        rintro e' wy ⟨rfl, rfl⟩
        refine hK.out _ _ ?_ (fun hHeld2 => ?_)
        · first | assumption | exact Chg.alloc hHeld _
        clear hHeld hK K
        have hHeld := hHeld2
        clear hHeld2
        try simp only [Act.put, List.setIfInBounds_toArray, List.set_cons_zero, List.set_cons_succ]
        -- 5: t75 := build 41 [⟨0, #i64:7⟩, ⟨4, t74⟩] : 41
        refine wpB_take (i := 5) (v := ?_) (get_of_drop rfl) (by kernel_rfl) (by kernel_rfl) (by kernel_rfl) (by kernel_rfl) (fun _ _ _ h => h) (Or.inl ⟨by rfl, ?_⟩) hHeld ?_
        rotate_left
        · (intro w hSw; (try dsimp only at hSw); go_simp <;> with_reducible rfl)
        try simp only [Act.put, List.setIfInBounds_toArray, List.set_cons_zero, List.set_cons_succ]
        -- 6: t76 := CALL fn53(t70, t72, t75) : 0 (BARRIER)
        refine wpB_bar (i := 6) (by kernel_rfl) (get_of_drop rfl) (by kernel_rfl) (fun K hK => ?_)
        go_simp
        refine (send_any (m := msgOp 7 nt) (R := fun _ => False) (H.out.far hHeld) (at_nil_ _ _ _) (by decide) (by intro e he; cases he) (numW_msgOp (by decide) (numW_of (by have := HNT.out; omega))) ⟨numW_of (by have := HST.out; show _ ≤ rt.s.view ∧ rt.s.view ≤ _; omega), numW_of (by have := HCF.out; show _ ≤ rt.id ∧ rt.id ≤ _; omega), HSW.out⟩ (by have := HOU.out; show rt.out.length ≤ _; omega)).mono ?_
        rintro e' wg ⟨O', rfl, hg, hog, kg⟩
        have HG := hid hg
        have HOG := hid hog
        have KG := hid kg
        clear hg hog kg
        refine hK.out _ _ (fun _ : World => True) ?_
        clear hHeld hK K
        have hHeld := trivial
        try simp only [Act.put, List.setIfInBounds_toArray, List.set_cons_zero, List.set_cons_succ]
        refine wpB_done (by kernel_rfl) ?_ _
        clear X_2 hHeld
        replace H := hid HG.out
        replace BX := hid (KG.out.blk BX.out (fun e => by rcases e with e | e; exact HPBN.out e; exact HOBN.out e))
        have HO1 := hid (show ∀ j, O'.ownBlock = some j → O.ownBlock = some j ∨ w.heap.size ≤ j from fun j hj => (HOG.out j hj).imp id (fun h => Nat.le_trans K.out.size h))
        replace K := hid (K.out.drew.trans KG.out (fun j hj _ => by rcases hj with h | h; exact .inl (.inl h); exact .inr h))
        replace BP := hid H.out.blk
        have P_8 : wg.cell? ⟨p, 8, none⟩ = some (.bool false) := by rw [← HCH.out]; exact (cellAt BP.out 8).trans rfl
        obtain ⟨r3, hr3⟩ : ∃ q_, q_ = sendR rt m.src (msgOp 7 (nt : Int)) := ⟨_, rfl⟩
        rw [← hr3] at H BP
        have HR3 := hid hr3
        have LT3 := hid (show nt = r3.s.log.length by rw [hr3]; exact LT.out)
        clear hr3
        go_wp2_with fail
        clear P_8
        have X_4 : ∀ wx, Chg (fun _ => False) wg wx → wx.cell? ⟨b, 4, none⟩ = some (.int .i64 m.op) := fun wx hx => (cellAt (hx.blk BX.out (fun h => h)) 4).trans rfl
        go_wp2_with fail
        refine wpB_start (fun wx : World => Chg (fun _ => False) wg wx) (by kernel_rfl) ?_
        have hHeld : (fun wx : World => Chg (fun _ => False) wg wx) _ := (Chg.refl (fun _ => False) wg).drew
        -- 0: t81 := fieldAddr 41 t3 4 : 0
        refine wpB_take (i := 0) (v := ?_) (get_of_drop rfl) (by kernel_rfl) (by kernel_rfl) (by kernel_rfl) (by kernel_rfl) (fun _ _ _ h => h) (Or.inl ⟨by rfl, ?_⟩) hHeld ?_
        rotate_left
        · (intro w hSw; (try dsimp only at hSw); go_simp <;> with_reducible rfl)
        try simp only [Act.put, List.setIfInBounds_toArray, List.set_cons_zero, List.set_cons_succ]
        -- 1: t82 := load 3 t81 : 3
        refine wpB_take (i := 1) (v := ?_) (get_of_drop rfl) (by kernel_rfl) (by kernel_rfl) (by kernel_rfl) (by kernel_rfl) (fun _ _ _ h => h) (Or.inl ⟨by rfl, ?_⟩) hHeld ?_
        rotate_left
        · (intro w hSw; (try dsimp only at hSw); go_simp <;> with_reducible rfl)
        try simp only [Act.put, List.setIfInBounds_toArray, List.set_cons_zero, List.set_cons_succ]
        -- 2: t83 := move t0 : 30
        refine wpB_take (i := 2) (v := ?_) (get_of_drop rfl) (by kernel_rfl) (by kernel_rfl) (by kernel_rfl) (by kernel_rfl) (fun _ _ _ h => h) (Or.inl ⟨by rfl, ?_⟩) hHeld ?_
        rotate_left
        · (intro w hSw; (try dsimp only at hSw); go_simp <;> with_reducible rfl)
        try simp only [Act.put, List.setIfInBounds_toArray, List.set_cons_zero, List.set_cons_succ]
        -- 3: t84 := CALL fn76(t83) : 3
        refine wpB_act (i := 3) (by kernel_rfl) (get_of_drop rfl) (fun K hK => ?_)
        go_simp
        refine (length_any (H.out.far hHeld) HNT.out).mono ?_
        rintro e' wy ⟨rfl, rfl⟩
        refine hK.out _ _ ?_ (fun hHeld2 => ?_)
        · first | assumption | exact Chg.alloc hHeld _
        clear hHeld hK K
        have hHeld := hHeld2
        clear hHeld2
        try simp only [Act.put, List.setIfInBounds_toArray, List.set_cons_zero, List.set_cons_succ]
        -- 4: t85 := binOp BinOp.gtr 3 t82 t84 3 : 4
        refine wpB_take (i := 4) (v := ?_) (get_of_drop rfl) (by kernel_rfl) (by kernel_rfl) (by kernel_rfl) (by kernel_rfl) (fun _ _ _ h => h) (Or.inl ⟨by rfl, ?_⟩) hHeld ?_
        rotate_left
        · (intro w hSw; (try dsimp only at hSw); go_simp <;> with_reducible rfl)
        try simp only [Act.put, List.setIfInBounds_toArray, List.set_cons_zero, List.set_cons_succ]
        -- 5: t4 := assign t85 : 4
        refine wpB_take (i := 5) (v := ?_) (get_of_drop rfl) (by kernel_rfl) (by kernel_rfl) (by kernel_rfl) (by kernel_rfl) (fun _ _ _ h => h) (Or.inl ⟨by rfl, ?_⟩) hHeld ?_
        rotate_left
        · (intro w hSw; (try dsimp only at hSw); go_simp <;> with_reducible rfl)
        try simp only [Act.put, List.setIfInBounds_toArray, List.set_cons_zero, List.set_cons_succ]
        refine wpB_done (by kernel_rfl) ?_ _
        clear X_4
        obtain ⟨w10, hdn⟩ : ∃ q_, q_ = wg.drew := ⟨_, rfl⟩
        rw [← hdn]
        replace K := hid (show Chg (fun j => M4 p b1 b2 b3 j ∨ O.ownBlock = some j) w w10 by rw [hdn]; exact K.out.drew)
        replace H := hid (show Rep w0 w10 p b1 b2 b3 X r3 At nt ct O' by rw [hdn]; exact H.out.far ((Chg.refl (fun _ => False) wg).drew))
        replace BX := hid (show w10.heap[b]? = some (.cells #[.int .i64 m.kind, .int .i64 m.view, .int .i64 m.src, .int .i64 m.dst, .int .i64 m.op, .int .i64 m.commit, .int .i64 m.normal, .slice B k d] 41 (0, 0)) by rw [hdn]; exact blk_drew BX.out)
        replace BP := hid H.out.blk
        clear hdn hHeld
        have U_5 : ∀ wx, Chg (fun _ => False) w10 wx → wx.cell? ⟨p, 5, none⟩ = some (.int .i64 r3.s.commit) := fun wx hx => (cellAt (hx.blk BP.out (fun h => h)) 5).trans rfl
        have P_5 : w10.cell? ⟨p, 5, none⟩ = some (.int .i64 r3.s.commit) := (cellAt BP.out 5).trans rfl
        have F_5 : w10.frozen? ⟨p, 5, none⟩ = false := freeAt BP.out 5
        have X_5 : ∀ wx, Chg (fun _ => False) w10 wx → wx.cell? ⟨b, 5, none⟩ = some (.int .i64 m.commit) := fun wx hx => (cellAt (hx.blk BX.out (fun h => h)) 5).trans rfl
        go_wp2_with fail
        refine wpB_start (fun wx : World => Chg (fun _ => False) w10 wx) (by kernel_rfl) ?_
        have hHeld : (fun wx : World => Chg (fun _ => False) w10 wx) _ := (Chg.refl (fun _ => False) w10).drew
        -- 0: t86 := move t0 : 30
        refine wpB_take (i := 0) (v := ?_) (get_of_drop rfl) (by kernel_rfl) (by kernel_rfl) (by kernel_rfl) (by kernel_rfl) (fun _ _ _ h => h) (Or.inl ⟨by rfl, ?_⟩) hHeld ?_
        rotate_left
        · (intro w hSw; (try dsimp only at hSw); go_simp <;> with_reducible rfl)
        try simp only [Act.put, List.setIfInBounds_toArray, List.set_cons_zero, List.set_cons_succ]
        -- 1: t87 := move t0 : 30
        refine wpB_take (i := 1) (v := ?_) (get_of_drop rfl) (by kernel_rfl) (by kernel_rfl) (by kernel_rfl) (by kernel_rfl) (fun _ _ _ h => h) (Or.inl ⟨by rfl, ?_⟩) hHeld ?_
        rotate_left
        · (intro w hSw; (try dsimp only at hSw); go_simp <;> with_reducible rfl)
        try simp only [Act.put, List.setIfInBounds_toArray, List.set_cons_zero, List.set_cons_succ]
        -- 2: t88 := nilCheck t87 : 0
        refine wpB_take (i := 2) (v := ?_) (get_of_drop rfl) (by kernel_rfl) (by kernel_rfl) (by kernel_rfl) (by kernel_rfl) (fun _ _ _ h => h) (Or.inl ⟨by rfl, ?_⟩) hHeld ?_
        rotate_left
        · (intro w hSw; (try dsimp only at hSw); go_simp <;> with_reducible rfl)
        try simp only [Act.put, List.setIfInBounds_toArray, List.set_cons_zero, List.set_cons_succ]
        -- 3: t89 := fieldAddr 100 t88 1 : 0
        refine wpB_take (i := 3) (v := ?_) (get_of_drop rfl) (by kernel_rfl) (by kernel_rfl) (by kernel_rfl) (by kernel_rfl) (fun _ _ _ h => h) (Or.inl ⟨by rfl, ?_⟩) hHeld ?_
        rotate_left
        · (intro w hSw; (try dsimp only at hSw); go_simp <;> with_reducible rfl)
        try simp only [Act.put, List.setIfInBounds_toArray, List.set_cons_zero, List.set_cons_succ]
        -- 4: t90 := fieldAddr 26 t89 2 : 0
        refine wpB_take (i := 4) (v := ?_) (get_of_drop rfl) (by kernel_rfl) (by kernel_rfl) (by kernel_rfl) (by kernel_rfl) (fun _ _ _ h => h) (Or.inl ⟨by rfl, ?_⟩) hHeld ?_
        rotate_left
        · (intro w hSw; (try dsimp only at hSw); go_simp <;> with_reducible rfl)
        try simp only [Act.put, List.setIfInBounds_toArray, List.set_cons_zero, List.set_cons_succ]
        -- 5: t91 := load 3 t90 : 3
        refine wpB_take (i := 5) (v := ?_) (get_of_drop rfl) (by kernel_rfl) (by kernel_rfl) (by kernel_rfl) (by kernel_rfl) (fun _ _ _ h => h) (Or.inl ⟨by rfl, ?_⟩) hHeld ?_
        rotate_left
        · (intro w hSw; (try dsimp only at hSw); go_simp <;> with_reducible rfl)
        try simp only [Act.put, List.setIfInBounds_toArray, List.set_cons_zero, List.set_cons_succ]
        -- 6: t92 := fieldAddr 41 t3 5 : 0
        refine wpB_take (i := 6) (v := ?_) (get_of_drop rfl) (by kernel_rfl) (by kernel_rfl) (by kernel_rfl) (by kernel_rfl) (fun _ _ _ h => h) (Or.inl ⟨by rfl, ?_⟩) hHeld ?_
        rotate_left
        · (intro w hSw; (try dsimp only at hSw); go_simp <;> with_reducible rfl)
        try simp only [Act.put, List.setIfInBounds_toArray, List.set_cons_zero, List.set_cons_succ]
        -- 7: t93 := load 3 t92 : 3
        refine wpB_take (i := 7) (v := ?_) (get_of_drop rfl) (by kernel_rfl) (by kernel_rfl) (by kernel_rfl) (by kernel_rfl) (fun _ _ _ h => h) (Or.inl ⟨by rfl, ?_⟩) hHeld ?_
        rotate_left
        · (intro w hSw; (try dsimp only at hSw); go_simp <;> with_reducible rfl)
        try simp only [Act.put, List.setIfInBounds_toArray, List.set_cons_zero, List.set_cons_succ]
        -- 8: t94 := move t0 : 30
        refine wpB_take (i := 8) (v := ?_) (get_of_drop rfl) (by kernel_rfl) (by kernel_rfl) (by kernel_rfl) (by kernel_rfl) (fun _ _ _ h => h) (Or.inl ⟨by rfl, ?_⟩) hHeld ?_
        rotate_left
        · (intro w hSw; (try dsimp only at hSw); go_simp <;> with_reducible rfl)
        try simp only [Act.put, List.setIfInBounds_toArray, List.set_cons_zero, List.set_cons_succ]
        -- 9: t95 := CALL fn76(t94) : 3
        refine wpB_act (i := 9) (by kernel_rfl) (get_of_drop rfl) (fun K hK => ?_)
        go_simp
        refine (length_any (H.out.far hHeld) HNT.out).mono ?_
        rintro e' wy ⟨rfl, rfl⟩
        refine hK.out _ _ ?_ (fun hHeld2 => ?_)
        · first | assumption | exact Chg.alloc hHeld _
        clear hHeld hK K
        have hHeld := hHeld2
        clear hHeld2
        try simp only [Act.put, List.setIfInBounds_toArray, List.set_cons_zero, List.set_cons_succ]
        -- 10: t96 := min(t93, t95) types [3, 3] : 3
        refine wpB_take (i := 10) (v := ?_) (get_of_drop rfl) (by kernel_rfl) (by kernel_rfl) (by kernel_rfl) (by kernel_rfl) (fun _ _ _ h => h) (Or.inl ⟨by rfl, ?_⟩) hHeld ?_
        rotate_left
        · (intro w hSw; (try dsimp only at hSw); go_simp <;> with_reducible rfl)
        try simp only [Act.put, List.setIfInBounds_toArray, List.set_cons_zero, List.set_cons_succ]
        -- 11: t97 := max(t91, t96) types [3, 3] : 3
        refine wpB_take (i := 11) (v := ?_) (get_of_drop rfl) (by kernel_rfl) (by kernel_rfl) (by kernel_rfl) (by kernel_rfl) (fun _ _ _ h => h) (Or.inl ⟨by rfl, ?_⟩) hHeld ?_
        rotate_left
        · (intro w hSw; (try dsimp only at hSw); go_simp <;> with_reducible rfl)
        try simp only [Act.put, List.setIfInBounds_toArray, List.set_cons_zero, List.set_cons_succ]
        -- 12: t98 := nilCheck t86 : 0
        refine wpB_take (i := 12) (v := ?_) (get_of_drop rfl) (by kernel_rfl) (by kernel_rfl) (by kernel_rfl) (by kernel_rfl) (fun _ _ _ h => h) (Or.inl ⟨by rfl, ?_⟩) hHeld ?_
        rotate_left
        · (intro w hSw; (try dsimp only at hSw); go_simp <;> with_reducible rfl)
        try simp only [Act.put, List.setIfInBounds_toArray, List.set_cons_zero, List.set_cons_succ]
        -- 13: t99 := fieldAddr 100 t98 1 : 0
        refine wpB_take (i := 13) (v := ?_) (get_of_drop rfl) (by kernel_rfl) (by kernel_rfl) (by kernel_rfl) (by kernel_rfl) (fun _ _ _ h => h) (Or.inl ⟨by rfl, ?_⟩) hHeld ?_
        rotate_left
        · (intro w hSw; (try dsimp only at hSw); go_simp <;> with_reducible rfl)
        try simp only [Act.put, List.setIfInBounds_toArray, List.set_cons_zero, List.set_cons_succ]
        -- 14: t100 := fieldAddr 26 t99 2 : 0
        refine wpB_take (i := 14) (v := ?_) (get_of_drop rfl) (by kernel_rfl) (by kernel_rfl) (by kernel_rfl) (by kernel_rfl) (fun _ _ _ h => h) (Or.inl ⟨by rfl, ?_⟩) hHeld ?_
        rotate_left
        · (intro w hSw; (try dsimp only at hSw); go_simp <;> with_reducible rfl)
        try simp only [Act.put, List.setIfInBounds_toArray, List.set_cons_zero, List.set_cons_succ]
        -- 15: t- := store 3 t100 t97 : 0 (BARRIER)
        refine wpB_bar (i := 15) (by kernel_rfl) (get_of_drop rfl) (by kernel_rfl) (fun K hK => ?_)
        go_simp
        refine hK.out _ _ (fun _ : World => True) ?_
        clear hHeld hK K
        have hHeld := trivial
        try simp only [Act.put, List.setIfInBounds_toArray, List.set_cons_zero, List.set_cons_succ]
        refine wpB_done (by kernel_rfl) ?_ _
        clear hHeld
        obtain ⟨q, hq⟩ : ∃ q_, q_ = mx r3.s.commit (mn m.commit (nt : Int)) := ⟨_, rfl⟩
        rw [← hq]
        have HQ := hid (show q = max r3.s.commit (min m.commit (nt : Int)) by rw [hq, mx_eq, mn_eq])
        obtain ⟨w11, hw11⟩ : ∃ q_, q_ = (w10.setCell ⟨p, 5, none⟩ (.int .i64 q)).drew := ⟨_, rfl⟩
        rw [← hw11]
        have K11 := hid (show Chg (fun k => k = p) w10 w11 by rw [hw11]; exact ((Chg.refl (fun k => k = p) w10).set (fun _ => rfl) _).drew)
        have HRS := hid (show raiseR r3 m.commit = { r3 with s := { r3.s with commit := q } } by unfold raiseR; rw [HQ.out, LT3.out])
        replace H := hid (show Rep w0 w11 p b1 b2 b3 X (raiseR r3 m.commit) At nt ct O' by rw [HRS.out]; exact H.out.put (r' := { r3 with s := { r3.s with commit := q } }) K11.out (by rw [hw11]; exact blk_drew (blk_set BP.out 5 _)) rfl rfl rfl rfl rfl)
        replace BX := hid (K11.out.blk BX.out HPBN.out)
        replace K := hid (K.out.trans K11.out (fun j hj _ => .inl (.inl hj)))
        clear hq hw11 U_5 P_5 F_5 X_5
        go_wp2_with fail
        go_end0
        have e1 : followR r m = raiseR r3 m.commit := by
          rw [HEQ2.out]
          unfold follow3R
          rw [if_pos (.inr (by rw [← LT.out]; exact HOP.out))]
          unfold follow4R
          rw [if_neg (show ¬ (sendR rt m.src (msgOp 7 (rt.s.log.length : Int))).ch = true from fun h => by have := HCH.out.symm.trans h; cases this), if_pos (show ((sendR rt m.src (msgOp 7 (rt.s.log.length : Int))).s.log.length : Int) < m.op from by show (rt.s.log.length : Int) < m.op; rw [← LT.out]; exact HOP.out), HR3.out, LT.out]
        rw [e1]
        exact ⟨At, nt, ct, O', rfl, H.out, HO1.out, K.out⟩
      · have HOP := hid hop
        have hop2 : m.op ≤ (nt : Int) := by omega
        have hop3 : decide ((nt : Int) < m.op) = false := by simp; omega
        have P_8 : w7.cell? ⟨p, 8, none⟩ = some (.bool false) := by rw [← HCH.out]; exact (cellAt BP.out 8).trans rfl
        go_wp2_with fail
        clear P_8
        have X_4 : ∀ wx, Chg (fun _ => False) w7 wx → wx.cell? ⟨b, 4, none⟩ = some (.int .i64 m.op) := fun wx hx => (cellAt (hx.blk BX.out (fun h => h)) 4).trans rfl
        go_wp2_with fail
        refine wpB_start (fun wx : World => Chg (fun _ => False) w7 wx) (by kernel_rfl) ?_
        have hHeld : (fun wx : World => Chg (fun _ => False) w7 wx) _ := (Chg.refl (fun _ => False) w7).drew
        -- 0: t81 := fieldAddr 41 t3 4 : 0
        refine wpB_take (i := 0) (v := ?_) (get_of_drop rfl) (by kernel_rfl) (by kernel_rfl) (by kernel_rfl) (by kernel_rfl) (fun _ _ _ h => h) (Or.inl ⟨by rfl, ?_⟩) hHeld ?_
        rotate_left
        · (intro w hSw; (try dsimp only at hSw); go_simp <;> with_reducible rfl)
        try simp only [Act.put, List.setIfInBounds_toArray, List.set_cons_zero, List.set_cons_succ]
        -- 1: t82 := load 3 t81 : 3
        refine wpB_take (i := 1) (v := ?_) (get_of_drop rfl) (by kernel_rfl) (by kernel_rfl) (by kernel_rfl) (by kernel_rfl) (fun _ _ _ h => h) (Or.inl ⟨by rfl, ?_⟩) hHeld ?_
        rotate_left
        · (intro w hSw; (try dsimp only at hSw); go_simp <;> with_reducible rfl)
        try simp only [Act.put, List.setIfInBounds_toArray, List.set_cons_zero, List.set_cons_succ]
        -- 2: t83 := move t0 : 30
        refine wpB_take (i := 2) (v := ?_) (get_of_drop rfl) (by kernel_rfl) (by kernel_rfl) (by kernel_rfl) (by kernel_rfl) (fun _ _ _ h => h) (Or.inl ⟨by rfl, ?_⟩) hHeld ?_
        rotate_left
        · (intro w hSw; (try dsimp only at hSw); go_simp <;> with_reducible rfl)
        try simp only [Act.put, List.setIfInBounds_toArray, List.set_cons_zero, List.set_cons_succ]
        -- 3: t84 := CALL fn76(t83) : 3
        refine wpB_act (i := 3) (by kernel_rfl) (get_of_drop rfl) (fun K hK => ?_)
        go_simp
        refine (length_any (H.out.far hHeld) HNT.out).mono ?_
        rintro e' wy ⟨rfl, rfl⟩
        refine hK.out _ _ ?_ (fun hHeld2 => ?_)
        · first | assumption | exact Chg.alloc hHeld _
        clear hHeld hK K
        have hHeld := hHeld2
        clear hHeld2
        try simp only [Act.put, List.setIfInBounds_toArray, List.set_cons_zero, List.set_cons_succ]
        -- 4: t85 := binOp BinOp.gtr 3 t82 t84 3 : 4
        refine wpB_take (i := 4) (v := ?_) (get_of_drop rfl) (by kernel_rfl) (by kernel_rfl) (by kernel_rfl) (by kernel_rfl) (fun _ _ _ h => h) (Or.inl ⟨by rfl, ?_⟩) hHeld ?_
        rotate_left
        · (intro w hSw; (try dsimp only at hSw); go_simp <;> with_reducible rfl)
        try simp only [Act.put, List.setIfInBounds_toArray, List.set_cons_zero, List.set_cons_succ]
        -- 5: t4 := assign t85 : 4
        refine wpB_take (i := 5) (v := ?_) (get_of_drop rfl) (by kernel_rfl) (by kernel_rfl) (by kernel_rfl) (by kernel_rfl) (fun _ _ _ h => h) (Or.inl ⟨by rfl, ?_⟩) hHeld ?_
        rotate_left
        · (intro w hSw; (try dsimp only at hSw); go_simp <;> with_reducible rfl)
        try simp only [Act.put, List.setIfInBounds_toArray, List.set_cons_zero, List.set_cons_succ]
        refine wpB_done (by kernel_rfl) ?_ _
        clear X_4
        obtain ⟨w10, hdn⟩ : ∃ q_, q_ = w7.drew := ⟨_, rfl⟩
        rw [← hdn]
        replace K := hid (show Chg (fun j => M4 p b1 b2 b3 j ∨ O.ownBlock = some j) w w10 by rw [hdn]; exact K.out.drew)
        replace H := hid (show Rep w0 w10 p b1 b2 b3 X rt At nt ct O by rw [hdn]; exact H.out.far ((Chg.refl (fun _ => False) w7).drew))
        replace BX := hid (show w10.heap[b]? = some (.cells #[.int .i64 m.kind, .int .i64 m.view, .int .i64 m.src, .int .i64 m.dst, .int .i64 m.op, .int .i64 m.commit, .int .i64 m.normal, .slice B k d] 41 (0, 0)) by rw [hdn]; exact blk_drew BX.out)
        replace BP := hid H.out.blk
        clear hdn hHeld
        have U_5 : ∀ wx, Chg (fun _ => False) w10 wx → wx.cell? ⟨p, 5, none⟩ = some (.int .i64 rt.s.commit) := fun wx hx => (cellAt (hx.blk BP.out (fun h => h)) 5).trans rfl
        have P_5 : w10.cell? ⟨p, 5, none⟩ = some (.int .i64 rt.s.commit) := (cellAt BP.out 5).trans rfl
        have F_5 : w10.frozen? ⟨p, 5, none⟩ = false := freeAt BP.out 5
        have X_5 : ∀ wx, Chg (fun _ => False) w10 wx → wx.cell? ⟨b, 5, none⟩ = some (.int .i64 m.commit) := fun wx hx => (cellAt (hx.blk BX.out (fun h => h)) 5).trans rfl
        go_wp2_with fail
        refine wpB_start (fun wx : World => Chg (fun _ => False) w10 wx) (by kernel_rfl) ?_
        have hHeld : (fun wx : World => Chg (fun _ => False) w10 wx) _ := (Chg.refl (fun _ => False) w10).drew
        -- 0: t86 := move t0 : 30
        refine wpB_take (i := 0) (v := ?_) (get_of_drop rfl) (by kernel_rfl) (by kernel_rfl) (by kernel_rfl) (by kernel_rfl) (fun _ _ _ h => h) (Or.inl ⟨by rfl, ?_⟩) hHeld ?_
        rotate_left
        · (intro w hSw; (try dsimp only at hSw); go_simp <;> with_reducible rfl)
        try simp only [Act.put, List.setIfInBounds_toArray, List.set_cons_zero, List.set_cons_succ]
        -- 1: t87 := move t0 : 30
        refine wpB_take (i := 1) (v := ?_) (get_of_drop rfl) (by kernel_rfl) (by kernel_rfl) (by kernel_rfl) (by kernel_rfl) (fun _ _ _ h => h) (Or.inl ⟨by rfl, ?_⟩) hHeld ?_
        rotate_left
        · (intro w hSw; (try dsimp only at hSw); go_simp <;> with_reducible rfl)
        try simp only [Act.put, List.setIfInBounds_toArray, List.set_cons_zero, List.set_cons_succ]
        -- 2: t88 := nilCheck t87 : 0
        refine wpB_take (i := 2) (v := ?_) (get_of_drop rfl) (by kernel_rfl) (by kernel_rfl) (by kernel_rfl) (by kernel_rfl) (fun _ _ _ h => h) (Or.inl ⟨by rfl, ?_⟩) hHeld ?_
        rotate_left
        · (intro w hSw; (try dsimp only at hSw); go_simp <;> with_reducible rfl)
        try simp only [Act.put, List.setIfInBounds_toArray, List.set_cons_zero, List.set_cons_succ]
        -- 3: t89 := fieldAddr 100 t88 1 : 0
        refine wpB_take (i := 3) (v := ?_) (get_of_drop rfl) (by kernel_rfl) (by kernel_rfl) (by kernel_rfl) (by kernel_rfl) (fun _ _ _ h => h) (Or.inl ⟨by rfl, ?_⟩) hHeld ?_
        rotate_left
        · (intro w hSw; (try dsimp only at hSw); go_simp <;> with_reducible rfl)
        try simp only [Act.put, List.setIfInBounds_toArray, List.set_cons_zero, List.set_cons_succ]
        -- 4: t90 := fieldAddr 26 t89 2 : 0
        refine wpB_take (i := 4) (v := ?_) (get_of_drop rfl) (by kernel_rfl) (by kernel_rfl) (by kernel_rfl) (by kernel_rfl) (fun _ _ _ h => h) (Or.inl ⟨by rfl, ?_⟩) hHeld ?_
        rotate_left
        · (intro w hSw; (try dsimp only at hSw); go_simp <;> with_reducible rfl)
        try simp only [Act.put, List.setIfInBounds_toArray, List.set_cons_zero, List.set_cons_succ]
        -- 5: t91 := load 3 t90 : 3
        refine wpB_take (i := 5) (v := ?_) (get_of_drop rfl) (by kernel_rfl) (by kernel_rfl) (by kernel_rfl) (by kernel_rfl) (fun _ _ _ h => h) (Or.inl ⟨by rfl, ?_⟩) hHeld ?_
        rotate_left
        · (intro w hSw; (try dsimp only at hSw); go_simp <;> with_reducible rfl)
        try simp only [Act.put, List.setIfInBounds_toArray, List.set_cons_zero, List.set_cons_succ]
        -- 6: t92 := fieldAddr 41 t3 5 : 0
        refine wpB_take (i := 6) (v := ?_) (get_of_drop rfl) (by kernel_rfl) (by kernel_rfl) (by kernel_rfl) (by kernel_rfl) (fun _ _ _ h => h) (Or.inl ⟨by rfl, ?_⟩) hHeld ?_
        rotate_left
        · (intro w hSw; (try dsimp only at hSw); go_simp <;> with_reducible rfl)
        try simp only [Act.put, List.setIfInBounds_toArray, List.set_cons_zero, List.set_cons_succ]
        -- 7: t93 := load 3 t92 : 3
        refine wpB_take (i := 7) (v := ?_) (get_of_drop rfl) (by kernel_rfl) (by kernel_rfl) (by kernel_rfl) (by kernel_rfl) (fun _ _ _ h => h) (Or.inl ⟨by rfl, ?_⟩) hHeld ?_
        rotate_left
        · (intro w hSw; (try dsimp only at hSw); go_simp <;> with_reducible rfl)
        try simp only [Act.put, List.setIfInBounds_toArray, List.set_cons_zero, List.set_cons_succ]
        -- 8: t94 := move t0 : 30
        refine wpB_take (i := 8) (v := ?_) (get_of_drop rfl) (by kernel_rfl) (by kernel_rfl) (by kernel_rfl) (by kernel_rfl) (fun _ _ _ h => h) (Or.inl ⟨by rfl, ?_⟩) hHeld ?_
        rotate_left
        · (intro w hSw; (try dsimp only at hSw); go_simp <;> with_reducible rfl)
        try simp only [Act.put, List.setIfInBounds_toArray, List.set_cons_zero, List.set_cons_succ]
        -- 9: t95 := CALL fn76(t94) : 3
        refine wpB_act (i := 9) (by kernel_rfl) (get_of_drop rfl) (fun K hK => ?_)
        go_simp
        refine (length_any (H.out.far hHeld) HNT.out).mono ?_
        rintro e' wy ⟨rfl, rfl⟩
        refine hK.out _ _ ?_ (fun hHeld2 => ?_)
        · first | assumption | exact Chg.alloc hHeld _
        clear hHeld hK K
        have hHeld := hHeld2
        clear hHeld2
        try simp only [Act.put, List.setIfInBounds_toArray, List.set_cons_zero, List.set_cons_succ]
        -- 10: t96 := min(t93, t95) types [3, 3] : 3
        refine wpB_take (i := 10) (v := ?_) (get_of_drop rfl) (by kernel_rfl) (by kernel_rfl) (by kernel_rfl) (by kernel_rfl) (fun _ _ _ h => h) (Or.inl ⟨by rfl, ?_⟩) hHeld ?_
        rotate_left
        · (intro w hSw; (try dsimp only at hSw); go_simp <;> with_reducible rfl)
        try simp only [Act.put, List.setIfInBounds_toArray, List.set_cons_zero, List.set_cons_succ]
        -- 11: t97 := max(t91, t96) types [3, 3] : 3
        refine wpB_take (i := 11) (v := ?_) (get_of_drop rfl) (by kernel_rfl) (by kernel_rfl) (by kernel_rfl) (by kernel_rfl) (fun _ _ _ h => h) (Or.inl ⟨by rfl, ?_⟩) hHeld ?_
        rotate_left
        · (intro w hSw; (try dsimp only at hSw); go_simp <;> with_reducible rfl)
        try simp only [Act.put, List.setIfInBounds_toArray, List.set_cons_zero, List.set_cons_succ]
        -- 12: t98 := nilCheck t86 : 0
        refine wpB_take (i := 12) (v := ?_) (get_of_drop rfl) (by kernel_rfl) (by kernel_rfl) (by kernel_rfl) (by kernel_rfl) (fun _ _ _ h => h) (Or.inl ⟨by rfl, ?_⟩) hHeld ?_
        rotate_left
        · (intro w hSw; (try dsimp only at hSw); go_simp <;> with_reducible rfl)
        try simp only [Act.put, List.setIfInBounds_toArray, List.set_cons_zero, List.set_cons_succ]
        -- 13: t99 := fieldAddr 100 t98 1 : 0
        refine wpB_take (i := 13) (v := ?_) (get_of_drop rfl) (by kernel_rfl) (by kernel_rfl) (by kernel_rfl) (by kernel_rfl) (fun _ _ _ h => h) (Or.inl ⟨by rfl, ?_⟩) hHeld ?_
        rotate_left
        · (intro w hSw; (try dsimp only at hSw); go_simp <;> with_reducible rfl)
        try simp only [Act.put, List.setIfInBounds_toArray, List.set_cons_zero, List.set_cons_succ]
        -- 14: t100 := fieldAddr 26 t99 2 : 0
        refine wpB_take (i := 14) (v := ?_) (get_of_drop rfl) (by kernel_rfl) (by kernel_rfl) (by kernel_rfl) (by kernel_rfl) (fun _ _ _ h => h) (Or.inl ⟨by rfl, ?_⟩) hHeld ?_
        rotate_left
        · (intro w hSw; (try dsimp only at hSw); go_simp <;> with_reducible rfl)
        try simp only [Act.put, List.setIfInBounds_toArray, List.set_cons_zero, List.set_cons_succ]
        -- 15: t- := store 3 t100 t97 : 0 (BARRIER)
        refine wpB_bar (i := 15) (by kernel_rfl) (get_of_drop rfl) (by kernel_rfl) (fun K hK => ?_)
        go_simp
        refine hK.out _ _ (fun _ : World => True) ?_
        clear hHeld hK K
        have hHeld := trivial
        try simp only [Act.put, List.setIfInBounds_toArray, List.set_cons_zero, List.set_cons_succ]
        refine wpB_done (by kernel_rfl) ?_ _
        clear hHeld
        obtain ⟨q, hq⟩ : ∃ q_, q_ = mx rt.s.commit (mn m.commit (nt : Int)) := ⟨_, rfl⟩
        rw [← hq]
        have HQ := hid (show q = max rt.s.commit (min m.commit (nt : Int)) by rw [hq, mx_eq, mn_eq])
        obtain ⟨w11, hw11⟩ : ∃ q_, q_ = (w10.setCell ⟨p, 5, none⟩ (.int .i64 q)).drew := ⟨_, rfl⟩
        rw [← hw11]
        have K11 := hid (show Chg (fun k => k = p) w10 w11 by rw [hw11]; exact ((Chg.refl (fun k => k = p) w10).set (fun _ => rfl) _).drew)
        have HRS := hid (show raiseR rt m.commit = { rt with s := { rt.s with commit := q } } by unfold raiseR; rw [HQ.out, LT.out])
        replace H := hid (show Rep w0 w11 p b1 b2 b3 X (raiseR rt m.commit) At nt ct O by rw [HRS.out]; exact H.out.put (r' := { rt with s := { rt.s with commit := q } }) K11.out (by rw [hw11]; exact blk_drew (blk_set BP.out 5 _)) rfl rfl rfl rfl rfl)
        replace BX := hid (K11.out.blk BX.out HPBN.out)
        replace K := hid (K.out.trans K11.out (fun j hj _ => .inl (.inl hj)))
        clear hq hw11 U_5 P_5 F_5 X_5
        go_wp2_with fail
        obtain ⟨r3, hr3⟩ : ∃ q_, q_ = raiseR rt m.commit := ⟨_, rfl⟩
        rw [← hr3] at H
        have HR3 := hid hr3
        have HV3 := hid (show r3.s.view = rt.s.view ∧ r3.id = rt.id ∧ r3.out = rt.out by rw [hr3]; exact ⟨rfl, rfl, rfl⟩)
        clear hr3
        have X_2 : ∀ wx, Chg (fun _ => False) w11 wx → wx.cell? ⟨b, 2, none⟩ = some (.int .i64 m.src) := fun wx hx => (cellAt (hx.blk BX.out (fun h => h)) 2).trans rfl
        refine wpB_start (fun wx : World => Chg (fun _ => False) w11 wx) (by kernel_rfl) ?_
        have hHeld : (fun wx : World => Chg (fun _ => False) w11 wx) _ := (Chg.refl (fun _ => False) w11).drew
        -- 0: t103 := move t0 : 30
        refine wpB_take (i := 0) (v := ?_) (get_of_drop rfl) (by kernel_rfl) (by kernel_rfl) (by kernel_rfl) (by kernel_rfl) (fun _ _ _ h => h) (Or.inl ⟨by rfl, ?_⟩) hHeld ?_
        rotate_left
        · (intro w hSw; (try dsimp only at hSw); go_simp <;> with_reducible rfl)
        try simp only [Act.put, List.setIfInBounds_toArray, List.set_cons_zero, List.set_cons_succ]
        -- 1: t104 := fieldAddr 41 t3 2 : 0
        refine wpB_take (i := 1) (v := ?_) (get_of_drop rfl) (by kernel_rfl) (by kernel_rfl) (by kernel_rfl) (by kernel_rfl) (fun _ _ _ h => h) (Or.inl ⟨by rfl, ?_⟩) hHeld ?_
        rotate_left
        · (intro w hSw; (try dsimp only at hSw); go_simp <;> with_reducible rfl)
        try simp only [Act.put, List.setIfInBounds_toArray, List.set_cons_zero, List.set_cons_succ]
        -- 2: t105 := load 3 t104 : 3
        refine wpB_take (i := 2) (v := ?_) (get_of_drop rfl) (by kernel_rfl) (by kernel_rfl) (by kernel_rfl) (by kernel_rfl) (fun _ _ _ h => h) (Or.inl ⟨by rfl, ?_⟩) hHeld ?_
        rotate_left
        · (intro w hSw; (try dsimp only at hSw); go_simp <;> with_reducible rfl)
        try simp only [Act.put, List.setIfInBounds_toArray, List.set_cons_zero, List.set_cons_succ]
        -- 3: t106 := move t0 : 30
        refine wpB_take (i := 3) (v := ?_) (get_of_drop rfl) (by kernel_rfl) (by kernel_rfl) (by kernel_rfl) (by kernel_rfl) (fun _ _ _ h => h) (Or.inl ⟨by rfl, ?_⟩) hHeld ?_
        rotate_left
        · (intro w hSw; (try dsimp only at hSw); go_simp <;> with_reducible rfl)
        try simp only [Act.put, List.setIfInBounds_toArray, List.set_cons_zero, List.set_cons_succ]
        -- 4: t107 := CALL fn76(t106) : 3
        refine wpB_act (i := 4) (by kernel_rfl) (get_of_drop rfl) (fun K hK => ?_)
        go_simp
        refine (length_any (H.out.far hHeld) HNT.out).mono ?_
        rintro e' wy ⟨rfl, rfl⟩
        refine hK.out _ _ ?_ (fun hHeld2 => ?_)
        · first | assumption | exact Chg.alloc hHeld _
        clear hHeld hK K
        have hHeld := hHeld2
        clear hHeld2
        try simp only [Act.put, List.setIfInBounds_toArray, List.set_cons_zero, List.set_cons_succ]
        -- 5: t108 := build 41 [⟨0, #i64:2⟩, ⟨4, t107⟩] : 41
        refine wpB_take (i := 5) (v := ?_) (get_of_drop rfl) (by kernel_rfl) (by kernel_rfl) (by kernel_rfl) (by kernel_rfl) (fun _ _ _ h => h) (Or.inl ⟨by rfl, ?_⟩) hHeld ?_
        rotate_left
        · (intro w hSw; (try dsimp only at hSw); go_simp <;> with_reducible rfl)
        try simp only [Act.put, List.setIfInBounds_toArray, List.set_cons_zero, List.set_cons_succ]
        -- 6: t109 := CALL fn53(t103, t105, t108) : 0 (BARRIER)
        refine wpB_bar (i := 6) (by kernel_rfl) (get_of_drop rfl) (by kernel_rfl) (fun K hK => ?_)
        go_simp
        refine (send_any (m := msgOp 2 nt) (R := fun _ => False) (H.out.far hHeld) (at_nil_ _ _ _) (by decide) (by intro e he; cases he) (numW_msgOp (by decide) (numW_of (by have := HNT.out; omega))) ⟨numW_of (by rw [HV3.out.1]; have := HST.out; show _ ≤ rt.s.view ∧ rt.s.view ≤ _; omega), numW_of (by rw [HV3.out.2.1]; have := HCF.out; show _ ≤ rt.id ∧ rt.id ≤ _; omega), HSW.out⟩ (by rw [HV3.out.2.2]; have := HOU.out; show rt.out.length ≤ _; omega)).mono ?_
        rintro e' wg ⟨O', rfl, hg, hog, kg⟩
        have HG := hid hg
        have HOG := hid hog
        have KG := hid kg
        clear hg hog kg
        refine hK.out _ _ (fun _ : World => True) ?_
        clear hHeld hK K
        have hHeld := trivial
        try simp only [Act.put, List.setIfInBounds_toArray, List.set_cons_zero, List.set_cons_succ]
        refine wpB_done (by kernel_rfl) ?_ _
        clear X_2 hHeld
        go_wp2_with fail
        go_end0
        have e1 : followR r m = sendR r3 m.src (msgOp 2 (nt : Int)) := by
          rw [HEQ2.out]
          unfold follow3R
          rw [if_neg (fun h => by rcases h with h | h; have := HCH.out.symm.trans h; cases this; rw [← LT.out] at h; have := HOP.out; omega)]
          unfold follow4R
          rw [if_neg (fun h => by have := HCH.out.symm.trans h; cases this), if_neg (by rw [← LT.out]; have := HOP.out; omega), HR3.out, LT.out]
        rw [e1]
        refine ⟨At, nt, ct, O', rfl, HG.out, fun j hj => (HOG.out j hj).imp id (fun h => Nat.le_trans K.out.size h), K.out.drew.trans (KG.out) (fun j hj hl => ?_)⟩
        rcases hj with h | h
        · exact .inl (.inl h)
        · exact .inr h
    have hk2 : (m.kind == 1) = true := by simp [hk1]
    have HK1 := hid hk1
    clear hk1
    have hntb : (nt : Int) ≤ 64 := by have := HNT.out; omega
    have hwr : IntKind.i64.wrap ((nt : Int) + 1) = (nt : Int) + 1 := IntWalk.i64_in _ (by omega)
    by_cases hop : m.op = (nt : Int) + 1
    case neg =>
      have hop2 : (m.op == (nt : Int) + 1) = false := by simp [hop]
      have HOP1 := hid hop
      clear hop
      go_wp2_with fail
      refine wpB_start (fun wx : World => Chg (fun _ => False) wt wx) (by kernel_rfl) ?_
      have hHeld : (fun wx : World => Chg (fun _ => False) wt wx) _ := (Chg.refl (fun _ => False) wt).drew
      -- 0: t27 := move t0 : 30
      refine wpB_take (i := 0) (v := ?_) (get_of_drop rfl) (by kernel_rfl) (by kernel_rfl) (by kernel_rfl) (by kernel_rfl) (fun _ _ _ h => h) (Or.inl ⟨by rfl, ?_⟩) hHeld ?_
      rotate_left
      · (intro w hSw; (try dsimp only at hSw); go_simp <;> with_reducible rfl)
      try simp only [Act.put, List.setIfInBounds_toArray, List.set_cons_zero, List.set_cons_succ]
      -- 1: t28 := nilCheck t27 : 0
      refine wpB_take (i := 1) (v := ?_) (get_of_drop rfl) (by kernel_rfl) (by kernel_rfl) (by kernel_rfl) (by kernel_rfl) (fun _ _ _ h => h) (Or.inl ⟨by rfl, ?_⟩) hHeld ?_
      rotate_left
      · (intro w hSw; (try dsimp only at hSw); go_simp <;> with_reducible rfl)
      try simp only [Act.put, List.setIfInBounds_toArray, List.set_cons_zero, List.set_cons_succ]
      -- 2: t29 := fieldAddr 100 t28 2 : 0
      refine wpB_take (i := 2) (v := ?_) (get_of_drop rfl) (by kernel_rfl) (by kernel_rfl) (by kernel_rfl) (by kernel_rfl) (fun _ _ _ h => h) (Or.inl ⟨by rfl, ?_⟩) hHeld ?_
      rotate_left
      · (intro w hSw; (try dsimp only at hSw); go_simp <;> with_reducible rfl)
      try simp only [Act.put, List.setIfInBounds_toArray, List.set_cons_zero, List.set_cons_succ]
      -- 3: t30 := load 4 t29 : 4
      refine wpB_take (i := 3) (v := ?_) (get_of_drop rfl) (by kernel_rfl) (by kernel_rfl) (by kernel_rfl) (by kernel_rfl) (fun _ _ _ h => h) (Or.inl ⟨by rfl, ?_⟩) hHeld ?_
      rotate_left
      · (intro w hSw; (try dsimp only at hSw); go_simp <;> with_reducible rfl)
      try simp only [Act.put, List.setIfInBounds_toArray, List.set_cons_zero, List.set_cons_succ]
      -- 4: t31 := unOp UnOp.not 4 t30 : 4
      refine wpB_take (i := 4) (v := ?_) (get_of_drop rfl) (by kernel_rfl) (by kernel_rfl) (by kernel_rfl) (by kernel_rfl) (fun _ _ _ h => h) (Or.inl ⟨by rfl, ?_⟩) hHeld ?_
      rotate_left
      · (intro w hSw; (try dsimp only at hSw); go_simp <;> with_reducible rfl)
      try simp only [Act.put, List.setIfInBounds_toArray, List.set_cons_zero, List.set_cons_succ]
      -- 5: t32 := move t31 : 4
      refine wpB_take (i := 5) (v := ?_) (get_of_drop rfl) (by kernel_rfl) (by kernel_rfl) (by kernel_rfl) (by kernel_rfl) (fun _ _ _ h => h) (Or.inl ⟨by rfl, ?_⟩) hHeld ?_
      rotate_left
      · (intro w hSw; (try dsimp only at hSw); go_simp <;> with_reducible rfl)
      try simp only [Act.put, List.setIfInBounds_toArray, List.set_cons_zero, List.set_cons_succ]
      -- 6: t33 := fieldAddr 41 t3 0 : 0   [if ⟨5, true⟩]
      refine wpB_take (i := 6) (v := ?_) (get_of_drop rfl) (by kernel_rfl) (by kernel_rfl) (by kernel_rfl) (by kernel_rfl) (fun _ _ _ h => h) (Or.inl ⟨by rfl, ?_⟩) hHeld ?_
      rotate_left
      · (intro w hSw; (try dsimp only at hSw); go_simp <;> with_reducible rfl)
      try simp only [Act.put, List.setIfInBounds_toArray, List.set_cons_zero, List.set_cons_succ]
      -- 7: t34 := load 3 t33 : 3   [if ⟨5, true⟩]
      refine wpB_take (i := 7) (v := ?_) (get_of_drop rfl) (by kernel_rfl) (by kernel_rfl) (by kernel_rfl) (by kernel_rfl) (fun _ _ _ h => h) (Or.inl ⟨by rfl, ?_⟩) hHeld ?_
      rotate_left
      · (intro w hSw; (try dsimp only at hSw); go_simp <;> with_reducible rfl)
      try simp only [Act.put, List.setIfInBounds_toArray, List.set_cons_zero, List.set_cons_succ]
      -- 8: t35 := binOp BinOp.eql 3 t34 #i64:1 3 : 4   [if ⟨5, true⟩]
      refine wpB_take (i := 8) (v := ?_) (get_of_drop rfl) (by kernel_rfl) (by kernel_rfl) (by kernel_rfl) (by kernel_rfl) (fun _ _ _ h => h) (Or.inl ⟨by rfl, ?_⟩) hHeld ?_
      rotate_left
      · (intro w hSw; (try dsimp only at hSw); go_simp <;> with_reducible rfl)
      try simp only [Act.put, List.setIfInBounds_toArray, List.set_cons_zero, List.set_cons_succ]
      -- 9: t36 := pick t32 t35 #false : 4
      refine wpB_take (i := 9) (v := ?_) (get_of_drop rfl) (by kernel_rfl) (by kernel_rfl) (by kernel_rfl) (by kernel_rfl) (fun _ _ _ h => h) (Or.inl ⟨by rfl, ?_⟩) hHeld ?_
      rotate_left
      · (intro w hSw; (try dsimp only at hSw); go_simp <;> with_reducible rfl)
      try simp only [Act.put, List.setIfInBounds_toArray, List.set_cons_zero, List.set_cons_succ]
      -- 10: t37 := move t36 : 4
      refine wpB_take (i := 10) (v := ?_) (get_of_drop rfl) (by kernel_rfl) (by kernel_rfl) (by kernel_rfl) (by kernel_rfl) (fun _ _ _ h => h) (Or.inl ⟨by rfl, ?_⟩) hHeld ?_
      rotate_left
      · (intro w hSw; (try dsimp only at hSw); go_simp <;> with_reducible rfl)
      try simp only [Act.put, List.setIfInBounds_toArray, List.set_cons_zero, List.set_cons_succ]
      -- 11: t38 := fieldAddr 41 t3 4 : 0   [if ⟨10, true⟩]
      refine wpB_take (i := 11) (v := ?_) (get_of_drop rfl) (by kernel_rfl) (by kernel_rfl) (by kernel_rfl) (by kernel_rfl) (fun _ _ _ h => h) (Or.inl ⟨by rfl, ?_⟩) hHeld ?_
      rotate_left
      · (intro w hSw; (try dsimp only at hSw); go_simp <;> with_reducible rfl)
      try simp only [Act.put, List.setIfInBounds_toArray, List.set_cons_zero, List.set_cons_succ]
      -- 12: t39 := load 3 t38 : 3   [if ⟨10, true⟩]
      refine wpB_take (i := 12) (v := ?_) (get_of_drop rfl) (by kernel_rfl) (by kernel_rfl) (by kernel_rfl) (by kernel_rfl) (fun _ _ _ h => h) (Or.inl ⟨by rfl, ?_⟩) hHeld ?_
      rotate_left
      · (intro w hSw; (try dsimp only at hSw); go_simp <;> with_reducible rfl)
      try simp only [Act.put, List.setIfInBounds_toArray, List.set_cons_zero, List.set_cons_succ]
      -- 13: t40 := move t0 : 30   [if ⟨10, true⟩]
      refine wpB_take (i := 13) (v := ?_) (get_of_drop rfl) (by kernel_rfl) (by kernel_rfl) (by kernel_rfl) (by kernel_rfl) (fun _ _ _ h => h) (Or.inl ⟨by rfl, ?_⟩) hHeld ?_
      rotate_left
      · (intro w hSw; (try dsimp only at hSw); go_simp <;> with_reducible rfl)
      try simp only [Act.put, List.setIfInBounds_toArray, List.set_cons_zero, List.set_cons_succ]
      -- 14: t41 := CALL fn76(t40) : 3   [if ⟨10, true⟩]
      refine wpB_act (i := 14) (by kernel_rfl) (get_of_drop rfl) (fun K hK => ?_)
      go_simp
      refine (length_any (H.out.far hHeld) HNT.out).mono ?_
      rintro e' wy ⟨rfl, rfl⟩
      refine hK.out _ _ ?_ (fun hHeld2 => ?_)
      · first | assumption | exact Chg.alloc hHeld _
      clear hHeld hK K
      have hHeld := hHeld2
      clear hHeld2
      try simp only [Act.put, List.setIfInBounds_toArray, List.set_cons_zero, List.set_cons_succ]
      -- 15: t42 := binOp BinOp.add 3 t41 #i64:1 3 : 3   [if ⟨10, true⟩]
      refine wpB_take (i := 15) (v := ?_) (get_of_drop rfl) (by kernel_rfl) (by kernel_rfl) (by kernel_rfl) (by kernel_rfl) (fun _ _ _ h => h) (Or.inl ⟨by rfl, ?_⟩) hHeld ?_
      rotate_left
      · (intro w hSw; (try dsimp only at hSw); go_simp <;> with_reducible rfl)
      try simp only [Act.put, List.setIfInBounds_toArray, List.set_cons_zero, List.set_cons_succ]
      -- 16: t43 := binOp BinOp.eql 3 t39 t42 3 : 4   [if ⟨10, true⟩]
      refine wpB_take (i := 16) (v := ?_) (get_of_drop rfl) (by kernel_rfl) (by kernel_rfl) (by kernel_rfl) (by kernel_rfl) (fun _ _ _ h => h) (Or.inl ⟨by rfl, ?_⟩) hHeld ?_
      rotate_left
      · (intro w hSw; (try dsimp only at hSw); go_simp <;> with_reducible rfl)
      try simp only [Act.put, List.setIfInBounds_toArray, List.set_cons_zero, List.set_cons_succ]
      -- 17: t44 := pick t37 t43 #false : 4
      refine wpB_take (i := 17) (v := ?_) (get_of_drop rfl) (by kernel_rfl) (by kernel_rfl) (by kernel_rfl) (by kernel_rfl) (fun _ _ _ h => h) (Or.inl ⟨by rfl, ?_⟩) hHeld ?_
      rotate_left
      · (intro w hSw; (try dsimp only at hSw); go_simp <;> with_reducible rfl)
      try simp only [Act.put, List.setIfInBounds_toArray, List.set_cons_zero, List.set_cons_succ]
      refine wpB_done (by kernel_rfl) ?_ _
      obtain ⟨w6, hdn⟩ : ∃ q_, q_ = wt.drew := ⟨_, rfl⟩
      rw [← hdn]
      replace K := hid (show Chg (fun j => M4 p b1 b2 b3 j ∨ O.ownBlock = some j) w w6 by rw [hdn]; exact K.out.drew)
      replace H := hid (show Rep w0 w6 p b1 b2 b3 X rt At nt ct O by rw [hdn]; exact H.out.far ((Chg.refl (fun _ => False) wt).drew))
      replace BX := hid (show w6.heap[b]? = some (.cells #[.int .i64 m.kind, .int .i64 m.view, .int .i64 m.src, .int .i64 m.dst, .int .i64 m.op, .int .i64 m.commit, .int .i64 m.normal, .slice B k d] 41 (0, 0)) by rw [hdn]; exact blk_drew BX.out)
      replace BP := hid H.out.blk
      clear hdn hHeld
      clear U_8 X_0 X_4 hk2 hop2 hwr hntb
      have HEQ2 := hid (show followR r m = follow4R (follow3R rt m) m by rw [HEQ.out]; unfold follow2R; rw [if_neg (fun h => HOP1.out (by rw [LT.out]; exact h.2.2))])
      have U_8 : ∀ wx, Chg (fun _ => False) w6 wx → wx.cell? ⟨p, 8, none⟩ = some (.bool false) := fun wx hx => by rw [← HCH.out]; exact (cellAt (hx.blk BP.out (fun h => h)) 8).trans rfl
      have X_4 : ∀ wx, Chg (fun _ => False) w6 wx → wx.cell? ⟨b, 4, none⟩ = some (.int .i64 m.op) := fun wx hx => (cellAt (hx.blk BX.out (fun h => h)) 4).trans rfl
      go_wp2_with fail
      refine wpB_start (fun wx : World => Chg (fun _ => False) w6 wx) (by kernel_rfl) ?_
      have hHeld : (fun wx : World => Chg (fun _ => False) w6 wx) _ := (Chg.refl (fun _ => False) w6).drew
      -- 0: t59 := move t0 : 30
      refine wpB_take (i := 0) (v := ?_) (get_of_drop rfl) (by kernel_rfl) (by kernel_rfl) (by kernel_rfl) (by kernel_rfl) (fun _ _ _ h => h) (Or.inl ⟨by rfl, ?_⟩) hHeld ?_
      rotate_left
      · (intro w hSw; (try dsimp only at hSw); go_simp <;> with_reducible rfl)
      try simp only [Act.put, List.setIfInBounds_toArray, List.set_cons_zero, List.set_cons_succ]
      -- 1: t60 := nilCheck t59 : 0
      refine wpB_take (i := 1) (v := ?_) (get_of_drop rfl) (by kernel_rfl) (by kernel_rfl) (by kernel_rfl) (by kernel_rfl) (fun _ _ _ h => h) (Or.inl ⟨by rfl, ?_⟩) hHeld ?_
      rotate_left
      · (intro w hSw; (try dsimp only at hSw); go_simp <;> with_reducible rfl)
      try simp only [Act.put, List.setIfInBounds_toArray, List.set_cons_zero, List.set_cons_succ]
      -- 2: t61 := fieldAddr 100 t60 2 : 0
      refine wpB_take (i := 2) (v := ?_) (get_of_drop rfl) (by kernel_rfl) (by kernel_rfl) (by kernel_rfl) (by kernel_rfl) (fun _ _ _ h => h) (Or.inl ⟨by rfl, ?_⟩) hHeld ?_
      rotate_left
      · (intro w hSw; (try dsimp only at hSw); go_simp <;> with_reducible rfl)
      try simp only [Act.put, List.setIfInBounds_toArray, List.set_cons_zero, List.set_cons_succ]
      -- 3: t62 := load 4 t61 : 4
      refine wpB_take (i := 3) (v := ?_) (get_of_drop rfl) (by kernel_rfl) (by kernel_rfl) (by kernel_rfl) (by kernel_rfl) (fun _ _ _ h => h) (Or.inl ⟨by rfl, ?_⟩) hHeld ?_
      rotate_left
      · (intro w hSw; (try dsimp only at hSw); go_simp <;> with_reducible rfl)
      try simp only [Act.put, List.setIfInBounds_toArray, List.set_cons_zero, List.set_cons_succ]
      -- 4: t63 := move t62 : 4
      refine wpB_take (i := 4) (v := ?_) (get_of_drop rfl) (by kernel_rfl) (by kernel_rfl) (by kernel_rfl) (by kernel_rfl) (fun _ _ _ h => h) (Or.inl ⟨by rfl, ?_⟩) hHeld ?_
      rotate_left
      · (intro w hSw; (try dsimp only at hSw); go_simp <;> with_reducible rfl)
      try simp only [Act.put, List.setIfInBounds_toArray, List.set_cons_zero, List.set_cons_succ]
      -- 5: t64 := fieldAddr 41 t3 4 : 0   [if ⟨4, false⟩]
      refine wpB_take (i := 5) (v := ?_) (get_of_drop rfl) (by kernel_rfl) (by kernel_rfl) (by kernel_rfl) (by kernel_rfl) (fun _ _ _ h => h) (Or.inl ⟨by rfl, ?_⟩) hHeld ?_
      rotate_left
      · (intro w hSw; (try dsimp only at hSw); go_simp <;> with_reducible rfl)
      try simp only [Act.put, List.setIfInBounds_toArray, List.set_cons_zero, List.set_cons_succ]
      -- 6: t65 := load 3 t64 : 3   [if ⟨4, false⟩]
      refine wpB_take (i := 6) (v := ?_) (get_of_drop rfl) (by kernel_rfl) (by kernel_rfl) (by kernel_rfl) (by kernel_rfl) (fun _ _ _ h => h) (Or.inl ⟨by rfl, ?_⟩) hHeld ?_
      rotate_left
      · (intro w hSw; (try dsimp only at hSw); go_simp <;> with_reducible rfl)
      try simp only [Act.put, List.setIfInBounds_toArray, List.set_cons_zero, List.set_cons_succ]
      -- 7: t66 := move t0 : 30   [if ⟨4, false⟩]
      refine wpB_take (i := 7) (v := ?_) (get_of_drop rfl) (by kernel_rfl) (by kernel_rfl) (by kernel_rfl) (by kernel_rfl) (fun _ _ _ h => h) (Or.inl ⟨by rfl, ?_⟩) hHeld ?_
      rotate_left
      · (intro w hSw; (try dsimp only at hSw); go_simp <;> with_reducible rfl)
      try simp only [Act.put, List.setIfInBounds_toArray, List.set_cons_zero, List.set_cons_succ]
      -- 8: t67 := CALL fn76(t66) : 3   [if ⟨4, false⟩]
      refine wpB_act (i := 8) (by kernel_rfl) (get_of_drop rfl) (fun K hK => ?_)
      go_simp
      refine (length_any (H.out.far hHeld) HNT.out).mono ?_
      rintro e' wy ⟨rfl, rfl⟩
      refine hK.out _ _ ?_ (fun hHeld2 => ?_)
      · first | assumption | exact Chg.alloc hHeld _
      clear hHeld hK K
      have hHeld := hHeld2
      clear hHeld2
      try simp only [Act.put, List.setIfInBounds_toArray, List.set_cons_zero, List.set_cons_succ]
      -- 9: t68 := binOp BinOp.gtr 3 t65 t67 3 : 4   [if ⟨4, false⟩]
      refine wpB_take (i := 9) (v := ?_) (get_of_drop rfl) (by kernel_rfl) (by kernel_rfl) (by kernel_rfl) (by kernel_rfl) (fun _ _ _ h => h) (Or.inl ⟨by rfl, ?_⟩) hHeld ?_
      rotate_left
      · (intro w hSw; (try dsimp only at hSw); go_simp <;> with_reducible rfl)
      try simp only [Act.put, List.setIfInBounds_toArray, List.set_cons_zero, List.set_cons_succ]
      -- 10: t69 := pick t63 #true t68 : 4
      refine wpB_take (i := 10) (v := ?_) (get_of_drop rfl) (by kernel_rfl) (by kernel_rfl) (by kernel_rfl) (by kernel_rfl) (fun _ _ _ h => h) (Or.inl ⟨by rfl, ?_⟩) hHeld ?_
      rotate_left
      · (intro w hSw; (try dsimp only at hSw); go_simp <;> with_reducible rfl)
      try simp only [Act.put, List.setIfInBounds_toArray, List.set_cons_zero, List.set_cons_succ]
      refine wpB_done (by kernel_rfl) ?_ _
      obtain ⟨w7, hdn⟩ : ∃ q_, q_ = w6.drew := ⟨_, rfl⟩
      rw [← hdn]
      replace K := hid (show Chg (fun j => M4 p b1 b2 b3 j ∨ O.ownBlock = some j) w w7 by rw [hdn]; exact K.out.drew)
      replace H := hid (show Rep w0 w7 p b1 b2 b3 X rt At nt ct O by rw [hdn]; exact H.out.far ((Chg.refl (fun _ => False) w6).drew))
      replace BX := hid (show w7.heap[b]? = some (.cells #[.int .i64 m.kind, .int .i64 m.view, .int .i64 m.src, .int .i64 m.dst, .int .i64 m.op, .int .i64 m.commit, .int .i64 m.normal, .slice B k d] 41 (0, 0)) by rw [hdn]; exact blk_drew BX.out)
      replace BP := hid H.out.blk
      clear hdn hHeld
      clear U_8 X_4
      by_cases hop : (nt : Int) < m.op
      · have HOP := hid hop
        have X_2 : ∀ wx, Chg (fun _ => False) w7 wx → wx.cell? ⟨b, 2, none⟩ = some (.int .i64 m.src) := fun wx hx => (cellAt (hx.blk BX.out (fun h => h)) 2).trans rfl
        go_wp2_with fail
        refine wpB_start (fun wx : World => Chg (fun _ => False) w7 wx) (by kernel_rfl) ?_
        have hHeld : (fun wx : World => Chg (fun _ => False) w7 wx) _ := (Chg.refl (fun _ => False) w7).drew
        -- 0: t70 := move t0 : 30
        refine wpB_take (i := 0) (v := ?_) (get_of_drop rfl) (by kernel_rfl) (by kernel_rfl) (by kernel_rfl) (by kernel_rfl) (fun _ _ _ h => h) (Or.inl ⟨by rfl, ?_⟩) hHeld ?_
        rotate_left
        · (intro w hSw; (try dsimp only at hSw); go_simp <;> with_reducible rfl)
        try simp only [Act.put, List.setIfInBounds_toArray, List.set_cons_zero, List.set_cons_succ]
        -- 1: t71 := fieldAddr 41 t3 2 : 0
        refine wpB_take (i := 1) (v := ?_) (get_of_drop rfl) (by kernel_rfl) (by kernel_rfl) (by kernel_rfl) (by kernel_rfl) (fun _ _ _ h => h) (Or.inl ⟨by rfl, ?_⟩) hHeld ?_
        rotate_left
        · (intro w hSw; (try dsimp only at hSw); go_simp <;> with_reducible rfl)
        try simp only [Act.put, List.setIfInBounds_toArray, List.set_cons_zero, List.set_cons_succ]
        -- 2: t72 := load 3 t71 : 3
        refine wpB_take (i := 2) (v := ?_) (get_of_drop rfl) (by kernel_rfl) (by kernel_rfl) (by kernel_rfl) (by kernel_rfl) (fun _ _ _ h => h) (Or.inl ⟨by rfl, ?_⟩) hHeld ?_
        rotate_left
        · (intro w hSw; (try dsimp only at hSw); go_simp <;> with_reducible rfl)
        try simp only [Act.put, List.setIfInBounds_toArray, List.set_cons_zero, List.set_cons_succ]
        -- 3: t73 := move t0 : 30
        refine wpB_take (i := 3) (v := ?_) (get_of_drop rfl) (by kernel_rfl) (by kernel_rfl) (by kernel_rfl) (by kernel_rfl) (fun _ _ _ h => h) (Or.inl ⟨by rfl, ?_⟩) hHeld ?_
        rotate_left
        · (intro w hSw; (try dsimp only at hSw); go_simp <;> with_reducible rfl)
        try simp only [Act.put, List.setIfInBounds_toArray, List.set_cons_zero, List.set_cons_succ]
        -- 4: t74 := CALL fn76(t73) : 3
        refine wpB_act (i := 4) (by kernel_rfl) (get_of_drop rfl) (fun K hK => ?_)
        go_simp
        refine (length_any (H.out.far hHeld) HNT.out).mono ?_
        rintro e' wy ⟨rfl, rfl⟩
        refine hK.out _ _ ?_ (fun hHeld2 => ?_)
        · first | assumption | exact Chg.alloc hHeld _
        clear hHeld hK K
        have hHeld := hHeld2
        clear hHeld2
        try simp only [Act.put, List.setIfInBounds_toArray, List.set_cons_zero, List.set_cons_succ]
        -- 5: t75 := build 41 [⟨0, #i64:7⟩, ⟨4, t74⟩] : 41
        refine wpB_take (i := 5) (v := ?_) (get_of_drop rfl) (by kernel_rfl) (by kernel_rfl) (by kernel_rfl) (by kernel_rfl) (fun _ _ _ h => h) (Or.inl ⟨by rfl, ?_⟩) hHeld ?_
        rotate_left
        · (intro w hSw; (try dsimp only at hSw); go_simp <;> with_reducible rfl)
        try simp only [Act.put, List.setIfInBounds_toArray, List.set_cons_zero, List.set_cons_succ]
        -- 6: t76 := CALL fn53(t70, t72, t75) : 0 (BARRIER)
        refine wpB_bar (i := 6) (by kernel_rfl) (get_of_drop rfl) (by kernel_rfl) (fun K hK => ?_)
        go_simp
        refine (send_any (m := msgOp 7 nt) (R := fun _ => False) (H.out.far hHeld) (at_nil_ _ _ _) (by decide) (by intro e he; cases he) (numW_msgOp (by decide) (numW_of (by have := HNT.out; omega))) ⟨numW_of (by have := HST.out; show _ ≤ rt.s.view ∧ rt.s.view ≤ _; omega), numW_of (by have := HCF.out; show _ ≤ rt.id ∧ rt.id ≤ _; omega), HSW.out⟩ (by have := HOU.out; show rt.out.length ≤ _; omega)).mono ?_
        rintro e' wg ⟨O', rfl, hg, hog, kg⟩
        have HG := hid hg
        have HOG := hid hog
        have KG := hid kg
        clear hg hog kg
        refine hK.out _ _ (fun _ : World => True) ?_
        clear hHeld hK K
        have hHeld := trivial
        try simp only [Act.put, List.setIfInBounds_toArray, List.set_cons_zero, List.set_cons_succ]
        refine wpB_done (by kernel_rfl) ?_ _
        clear X_2 hHeld
        replace H := hid HG.out
        replace BX := hid (KG.out.blk BX.out (fun e => by rcases e with e | e; exact HPBN.out e; exact HOBN.out e))
        have HO1 := hid (show ∀ j, O'.ownBlock = some j → O.ownBlock = some j ∨ w.heap.size ≤ j from fun j hj => (HOG.out j hj).imp id (fun h => Nat.le_trans K.out.size h))
        replace K := hid (K.out.drew.trans KG.out (fun j hj _ => by rcases hj with h | h; exact .inl (.inl h); exact .inr h))
        replace BP := hid H.out.blk
        have P_8 : wg.cell? ⟨p, 8, none⟩ = some (.bool false) := by rw [← HCH.out]; exact (cellAt BP.out 8).trans rfl
        obtain ⟨r3, hr3⟩ : ∃ q_, q_ = sendR rt m.src (msgOp 7 (nt : Int)) := ⟨_, rfl⟩
        rw [← hr3] at H BP
        have HR3 := hid hr3
        have LT3 := hid (show nt = r3.s.log.length by rw [hr3]; exact LT.out)
        clear hr3
        go_wp2_with fail
        clear P_8
        have X_4 : ∀ wx, Chg (fun _ => False) wg wx → wx.cell? ⟨b, 4, none⟩ = some (.int .i64 m.op) := fun wx hx => (cellAt (hx.blk BX.out (fun h => h)) 4).trans rfl
        go_wp2_with fail
        refine wpB_start (fun wx : World => Chg (fun _ => False) wg wx) (by kernel_rfl) ?_
        have hHeld : (fun wx : World => Chg (fun _ => False) wg wx) _ := (Chg.refl (fun _ => False) wg).drew
        -- 0: t81 := fieldAddr 41 t3 4 : 0
        refine wpB_take (i := 0) (v := ?_) (get_of_drop rfl) (by kernel_rfl) (by kernel_rfl) (by kernel_rfl) (by kernel_rfl) (fun _ _ _ h => h) (Or.inl ⟨by rfl, ?_⟩) hHeld ?_
        rotate_left
        · (intro w hSw; (try dsimp only at hSw); go_simp <;> with_reducible rfl)
        try simp only [Act.put, List.setIfInBounds_toArray, List.set_cons_zero, List.set_cons_succ]
        -- 1: t82 := load 3 t81 : 3
        refine wpB_take (i := 1) (v := ?_) (get_of_drop rfl) (by kernel_rfl) (by kernel_rfl) (by kernel_rfl) (by kernel_rfl) (fun _ _ _ h => h) (Or.inl ⟨by rfl, ?_⟩) hHeld ?_
        rotate_left
        · (intro w hSw; (try dsimp only at hSw); go_simp <;> with_reducible rfl)
        try simp only [Act.put, List.setIfInBounds_toArray, List.set_cons_zero, List.set_cons_succ]
        -- 2: t83 := move t0 : 30
        refine wpB_take (i := 2) (v := ?_) (get_of_drop rfl) (by kernel_rfl) (by kernel_rfl) (by kernel_rfl) (by kernel_rfl) (fun _ _ _ h => h) (Or.inl ⟨by rfl, ?_⟩) hHeld ?_
        rotate_left
        · (intro w hSw; (try dsimp only at hSw); go_simp <;> with_reducible rfl)
        try simp only [Act.put, List.setIfInBounds_toArray, List.set_cons_zero, List.set_cons_succ]
        -- 3: t84 := CALL fn76(t83) : 3
        refine wpB_act (i := 3) (by kernel_rfl) (get_of_drop rfl) (fun K hK => ?_)
        go_simp
        refine (length_any (H.out.far hHeld) HNT.out).mono ?_
        rintro e' wy ⟨rfl, rfl⟩
        refine hK.out _ _ ?_ (fun hHeld2 => ?_)
        · first | assumption | exact Chg.alloc hHeld _
        clear hHeld hK K
        have hHeld := hHeld2
        clear hHeld2
        try simp only [Act.put, List.setIfInBounds_toArray, List.set_cons_zero, List.set_cons_succ]
        -- 4: t85 := binOp BinOp.gtr 3 t82 t84 3 : 4
        refine wpB_take (i := 4) (v := ?_) (get_of_drop rfl) (by kernel_rfl) (by kernel_rfl) (by kernel_rfl) (by kernel_rfl) (fun _ _ _ h => h) (Or.inl ⟨by rfl, ?_⟩) hHeld ?_
        rotate_left
        · (intro w hSw; (try dsimp only at hSw); go_simp <;> with_reducible rfl)
        try simp only [Act.put, List.setIfInBounds_toArray, List.set_cons_zero, List.set_cons_succ]
        -- 5: t4 := assign t85 : 4
        refine wpB_take (i := 5) (v := ?_) (get_of_drop rfl) (by kernel_rfl) (by kernel_rfl) (by kernel_rfl) (by kernel_rfl) (fun _ _ _ h => h) (Or.inl ⟨by rfl, ?_⟩) hHeld ?_
        rotate_left
        · (intro w hSw; (try dsimp only at hSw); go_simp <;> with_reducible rfl)
        try simp only [Act.put, List.setIfInBounds_toArray, List.set_cons_zero, List.set_cons_succ]
        refine wpB_done (by kernel_rfl) ?_ _
        clear X_4
        obtain ⟨w10, hdn⟩ : ∃ q_, q_ = wg.drew := ⟨_, rfl⟩
        rw [← hdn]
        replace K := hid (show Chg (fun j => M4 p b1 b2 b3 j ∨ O.ownBlock = some j) w w10 by rw [hdn]; exact K.out.drew)
        replace H := hid (show Rep w0 w10 p b1 b2 b3 X r3 At nt ct O' by rw [hdn]; exact H.out.far ((Chg.refl (fun _ => False) wg).drew))
        replace BX := hid (show w10.heap[b]? = some (.cells #[.int .i64 m.kind, .int .i64 m.view, .int .i64 m.src, .int .i64 m.dst, .int .i64 m.op, .int .i64 m.commit, .int .i64 m.normal, .slice B k d] 41 (0, 0)) by rw [hdn]; exact blk_drew BX.out)
        replace BP := hid H.out.blk
        clear hdn hHeld
        have U_5 : ∀ wx, Chg (fun _ => False) w10 wx → wx.cell? ⟨p, 5, none⟩ = some (.int .i64 r3.s.commit) := fun wx hx => (cellAt (hx.blk BP.out (fun h => h)) 5).trans rfl
        have P_5 : w10.cell? ⟨p, 5, none⟩ = some (.int .i64 r3.s.commit) := (cellAt BP.out 5).trans rfl
        have F_5 : w10.frozen? ⟨p, 5, none⟩ = false := freeAt BP.out 5
        have X_5 : ∀ wx, Chg (fun _ => False) w10 wx → wx.cell? ⟨b, 5, none⟩ = some (.int .i64 m.commit) := fun wx hx => (cellAt (hx.blk BX.out (fun h => h)) 5).trans rfl
        go_wp2_with fail
        refine wpB_start (fun wx : World => Chg (fun _ => False) w10 wx) (by kernel_rfl) ?_
        have hHeld : (fun wx : World => Chg (fun _ => False) w10 wx) _ := (Chg.refl (fun _ => False) w10).drew
        -- 0: t86 := move t0 : 30
        refine wpB_take (i := 0) (v := ?_) (get_of_drop rfl) (by kernel_rfl) (by kernel_rfl) (by kernel_rfl) (by kernel_rfl) (fun _ _ _ h => h) (Or.inl ⟨by rfl, ?_⟩) hHeld ?_
        rotate_left
        · (intro w hSw; (try dsimp only at hSw); go_simp <;> with_reducible rfl)
        try simp only [Act.put, List.setIfInBounds_toArray, List.set_cons_zero, List.set_cons_succ]
        -- 1: t87 := move t0 : 30
        refine wpB_take (i := 1) (v := ?_) (get_of_drop rfl) (by kernel_rfl) (by kernel_rfl) (by kernel_rfl) (by kernel_rfl) (fun _ _ _ h => h) (Or.inl ⟨by rfl, ?_⟩) hHeld ?_
        rotate_left
        · (intro w hSw; (try dsimp only at hSw); go_simp <;> with_reducible rfl)
        try simp only [Act.put, List.setIfInBounds_toArray, List.set_cons_zero, List.set_cons_succ]
        -- 2: t88 := nilCheck t87 : 0
        refine wpB_take (i := 2) (v := ?_) (get_of_drop rfl) (by kernel_rfl) (by kernel_rfl) (by kernel_rfl) (by kernel_rfl) (fun _ _ _ h => h) (Or.inl ⟨by rfl, ?_⟩) hHeld ?_
        rotate_left
        · (intro w hSw; (try dsimp only at hSw); go_simp <;> with_reducible rfl)
        try simp only [Act.put, List.setIfInBounds_toArray, List.set_cons_zero, List.set_cons_succ]
        -- 3: t89 := fieldAddr 100 t88 1 : 0
        refine wpB_take (i := 3) (v := ?_) (get_of_drop rfl) (by kernel_rfl) (by kernel_rfl) (by kernel_rfl) (by kernel_rfl) (fun _ _ _ h => h) (Or.inl ⟨by rfl, ?_⟩) hHeld ?_
        rotate_left
        · (intro w hSw; (try dsimp only at hSw); go_simp <;> with_reducible rfl)
        try simp only [Act.put, List.setIfInBounds_toArray, List.set_cons_zero, List.set_cons_succ]
        -- 4: t90 := fieldAddr 26 t89 2 : 0
        refine wpB_take (i := 4) (v := ?_) (get_of_drop rfl) (by kernel_rfl) (by kernel_rfl) (by kernel_rfl) (by kernel_rfl) (fun _ _ _ h => h) (Or.inl ⟨by rfl, ?_⟩) hHeld ?_
        rotate_left
        · (intro w hSw; (try dsimp only at hSw); go_simp <;> with_reducible rfl)
        try simp only [Act.put, List.setIfInBounds_toArray, List.set_cons_zero, List.set_cons_succ]
        -- 5: t91 := load 3 t90 : 3
        refine wpB_take (i := 5) (v := ?_) (get_of_drop rfl) (by kernel_rfl) (by kernel_rfl) (by kernel_rfl) (by kernel_rfl) (fun _ _ _ h => h) (Or.inl ⟨by rfl, ?_⟩) hHeld ?_
        rotate_left
        · (intro w hSw; (try dsimp only at hSw); go_simp <;> with_reducible rfl)
        try simp only [Act.put, List.setIfInBounds_toArray, List.set_cons_zero, List.set_cons_succ]
        -- 6: t92 := fieldAddr 41 t3 5 : 0
        refine wpB_take (i := 6) (v := ?_) (get_of_drop rfl) (by kernel_rfl) (by kernel_rfl) (by kernel_rfl) (by kernel_rfl) (fun _ _ _ h => h) (Or.inl ⟨by rfl, ?_⟩) hHeld ?_
        rotate_left
        · (intro w hSw; (try dsimp only at hSw); go_simp <;> with_reducible rfl)
        try simp only [Act.put, List.setIfInBounds_toArray, List.set_cons_zero, List.set_cons_succ]
        -- 7: t93 := load 3 t92 : 3
        refine wpB_take (i := 7) (v := ?_) (get_of_drop rfl) (by kernel_rfl) (by kernel_rfl) (by kernel_rfl) (by kernel_rfl) (fun _ _ _ h => h) (Or.inl ⟨by rfl, ?_⟩) hHeld ?_
        rotate_left
        · (intro w hSw; (try dsimp only at hSw); go_simp <;> with_reducible rfl)
        try simp only [Act.put, List.setIfInBounds_toArray, List.set_cons_zero, List.set_cons_succ]
        -- 8: t94 := move t0 : 30
        refine wpB_take (i := 8) (v := ?_) (get_of_drop rfl) (by kernel_rfl) (by kernel_rfl) (by kernel_rfl) (by kernel_rfl) (fun _ _ _ h => h) (Or.inl ⟨by rfl, ?_⟩) hHeld ?_
        rotate_left
        · (intro w hSw; (try dsimp only at hSw); go_simp <;> with_reducible rfl)
        try simp only [Act.put, List.setIfInBounds_toArray, List.set_cons_zero, List.set_cons_succ]
        -- 9: t95 := CALL fn76(t94) : 3
        refine wpB_act (i := 9) (by kernel_rfl) (get_of_drop rfl) (fun K hK => ?_)
        go_simp
        refine (length_any (H.out.far hHeld) HNT.out).mono ?_
        rintro e' wy ⟨rfl, rfl⟩
        refine hK.out _ _ ?_ (fun hHeld2 => ?_)
        · first | assumption | exact Chg.alloc hHeld _
        clear hHeld hK K
        have hHeld := hHeld2
        clear hHeld2
        try simp only [Act.put, List.setIfInBounds_toArray, List.set_cons_zero, List.set_cons_succ]
        -- 10: t96 := min(t93, t95) types [3, 3] : 3
        refine wpB_take (i := 10) (v := ?_) (get_of_drop rfl) (by kernel_rfl) (by kernel_rfl) (by kernel_rfl) (by kernel_rfl) (fun _ _ _ h => h) (Or.inl ⟨by rfl, ?_⟩) hHeld ?_
        rotate_left
        · (intro w hSw; (try dsimp only at hSw); go_simp <;> with_reducible rfl)
        try simp only [Act.put, List.setIfInBounds_toArray, List.set_cons_zero, List.set_cons_succ]
        -- 11: t97 := max(t91, t96) types [3, 3] : 3
        refine wpB_take (i := 11) (v := ?_) (get_of_drop rfl) (by kernel_rfl) (by kernel_rfl) (by kernel_rfl) (by kernel_rfl) (fun _ _ _ h => h) (Or.inl ⟨by rfl, ?_⟩) hHeld ?_
        rotate_left
        · (intro w hSw; (try dsimp only at hSw); go_simp <;> with_reducible rfl)
        try simp only [Act.put, List.setIfInBounds_toArray, List.set_cons_zero, List.set_cons_succ]
        -- 12: t98 := nilCheck t86 : 0
        refine wpB_take (i := 12) (v := ?_) (get_of_drop rfl) (by kernel_rfl) (by kernel_rfl) (by kernel_rfl) (by kernel_rfl) (fun _ _ _ h => h) (Or.inl ⟨by rfl, ?_⟩) hHeld ?_
        rotate_left
        · (intro w hSw; (try dsimp only at hSw); go_simp <;> with_reducible rfl)
        try simp only [Act.put, List.setIfInBounds_toArray, List.set_cons_zero, List.set_cons_succ]
        -- 13: t99 := fieldAddr 100 t98 1 : 0
        refine wpB_take (i := 13) (v := ?_) (get_of_drop rfl) (by kernel_rfl) (by kernel_rfl) (by kernel_rfl) (by kernel_rfl) (fun _ _ _ h => h) (Or.inl ⟨by rfl, ?_⟩) hHeld ?_
        rotate_left
        · (intro w hSw; (try dsimp only at hSw); go_simp <;> with_reducible rfl)
        try simp only [Act.put, List.setIfInBounds_toArray, List.set_cons_zero, List.set_cons_succ]
        -- 14: t100 := fieldAddr 26 t99 2 : 0
        refine wpB_take (i := 14) (v := ?_) (get_of_drop rfl) (by kernel_rfl) (by kernel_rfl) (by kernel_rfl) (by kernel_rfl) (fun _ _ _ h => h) (Or.inl ⟨by rfl, ?_⟩) hHeld ?_
        rotate_left
        · (intro w hSw; (try dsimp only at hSw); go_simp <;> with_reducible rfl)
        try simp only [Act.put, List.setIfInBounds_toArray, List.set_cons_zero, List.set_cons_succ]
        -- 15: t- := store 3 t100 t97 : 0 (BARRIER)
        refine wpB_bar (i := 15) (by kernel_rfl) (get_of_drop rfl) (by kernel_rfl) (fun K hK => ?_)
        go_simp
        refine hK.out _ _ (fun _ : World => True) ?_
        clear hHeld hK K
        have hHeld := trivial
        try simp only [Act.put, List.setIfInBounds_toArray, List.set_cons_zero, List.set_cons_succ]
        refine wpB_done (by kernel_rfl) ?_ _
        clear hHeld
        obtain ⟨q, hq⟩ : ∃ q_, q_ = mx r3.s.commit (mn m.commit (nt : Int)) := ⟨_, rfl⟩
        rw [← hq]
        have HQ := hid (show q = max r3.s.commit (min m.commit (nt : Int)) by rw [hq, mx_eq, mn_eq])
        obtain ⟨w11, hw11⟩ : ∃ q_, q_ = (w10.setCell ⟨p, 5, none⟩ (.int .i64 q)).drew := ⟨_, rfl⟩
        rw [← hw11]
        have K11 := hid (show Chg (fun k => k = p) w10 w11 by rw [hw11]; exact ((Chg.refl (fun k => k = p) w10).set (fun _ => rfl) _).drew)
        have HRS := hid (show raiseR r3 m.commit = { r3 with s := { r3.s with commit := q } } by unfold raiseR; rw [HQ.out, LT3.out])
        replace H := hid (show Rep w0 w11 p b1 b2 b3 X (raiseR r3 m.commit) At nt ct O' by rw [HRS.out]; exact H.out.put (r' := { r3 with s := { r3.s with commit := q } }) K11.out (by rw [hw11]; exact blk_drew (blk_set BP.out 5 _)) rfl rfl rfl rfl rfl)
        replace BX := hid (K11.out.blk BX.out HPBN.out)
        replace K := hid (K.out.trans K11.out (fun j hj _ => .inl (.inl hj)))
        clear hq hw11 U_5 P_5 F_5 X_5
        go_wp2_with fail
        go_end0
        have e1 : followR r m = raiseR r3 m.commit := by
          rw [HEQ2.out]
          unfold follow3R
          rw [if_pos (.inr (by rw [← LT.out]; exact HOP.out))]
          unfold follow4R
          rw [if_neg (show ¬ (sendR rt m.src (msgOp 7 (rt.s.log.length : Int))).ch = true from fun h => by have := HCH.out.symm.trans h; cases this), if_pos (show ((sendR rt m.src (msgOp 7 (rt.s.log.length : Int))).s.log.length : Int) < m.op from by show (rt.s.log.length : Int) < m.op; rw [← LT.out]; exact HOP.out), HR3.out, LT.out]
        rw [e1]
        exact ⟨At, nt, ct, O', rfl, H.out, HO1.out, K.out⟩
      · have HOP := hid hop
        have hop2 : m.op ≤ (nt : Int) := by omega
        have hop3 : decide ((nt : Int) < m.op) = false := by simp; omega
        have P_8 : w7.cell? ⟨p, 8, none⟩ = some (.bool false) := by rw [← HCH.out]; exact (cellAt BP.out 8).trans rfl
        go_wp2_with fail
        clear P_8
        have X_4 : ∀ wx, Chg (fun _ => False) w7 wx → wx.cell? ⟨b, 4, none⟩ = some (.int .i64 m.op) := fun wx hx => (cellAt (hx.blk BX.out (fun h => h)) 4).trans rfl
        go_wp2_with fail
        refine wpB_start (fun wx : World => Chg (fun _ => False) w7 wx) (by kernel_rfl) ?_
        have hHeld : (fun wx : World => Chg (fun _ => False) w7 wx) _ := (Chg.refl (fun _ => False) w7).drew
        -- 0: t81 := fieldAddr 41 t3 4 : 0
        refine wpB_take (i := 0) (v := ?_) (get_of_drop rfl) (by kernel_rfl) (by kernel_rfl) (by kernel_rfl) (by kernel_rfl) (fun _ _ _ h => h) (Or.inl ⟨by rfl, ?_⟩) hHeld ?_
        rotate_left
        · (intro w hSw; (try dsimp only at hSw); go_simp <;> with_reducible rfl)
        try simp only [Act.put, List.setIfInBounds_toArray, List.set_cons_zero, List.set_cons_succ]
        -- 1: t82 := load 3 t81 : 3
        refine wpB_take (i := 1) (v := ?_) (get_of_drop rfl) (by kernel_rfl) (by kernel_rfl) (by kernel_rfl) (by kernel_rfl) (fun _ _ _ h => h) (Or.inl ⟨by rfl, ?_⟩) hHeld ?_
        rotate_left
        · (intro w hSw; (try dsimp only at hSw); go_simp <;> with_reducible rfl)
        try simp only [Act.put, List.setIfInBounds_toArray, List.set_cons_zero, List.set_cons_succ]
        -- 2: t83 := move t0 : 30
        refine wpB_take (i := 2) (v := ?_) (get_of_drop rfl) (by kernel_rfl) (by kernel_rfl) (by kernel_rfl) (by kernel_rfl) (fun _ _ _ h => h) (Or.inl ⟨by rfl, ?_⟩) hHeld ?_
        rotate_left
        · (intro w hSw; (try dsimp only at hSw); go_simp <;> with_reducible rfl)
        try simp only [Act.put, List.setIfInBounds_toArray, List.set_cons_zero, List.set_cons_succ]
        -- 3: t84 := CALL fn76(t83) : 3
        refine wpB_act (i := 3) (by kernel_rfl) (get_of_drop rfl) (fun K hK => ?_)
        go_simp
        refine (length_any (H.out.far hHeld) HNT.out).mono ?_
        rintro e' wy ⟨rfl, rfl⟩
        refine hK.out _ _ ?_ (fun hHeld2 => ?_)
        · first | assumption | exact Chg.alloc hHeld _
        clear hHeld hK K
        have hHeld := hHeld2
        clear hHeld2
        try simp only [Act.put, List.setIfInBounds_toArray, List.set_cons_zero, List.set_cons_succ]
        -- 4: t85 := binOp BinOp.gtr 3 t82 t84 3 : 4
        refine wpB_take (i := 4) (v := ?_) (get_of_drop rfl) (by kernel_rfl) (by kernel_rfl) (by kernel_rfl) (by kernel_rfl) (fun _ _ _ h => h) (Or.inl ⟨by rfl, ?_⟩) hHeld ?_
        rotate_left
        · (intro w hSw; (try dsimp only at hSw); go_simp <;> with_reducible rfl)
        try simp only [Act.put, List.setIfInBounds_toArray, List.set_cons_zero, List.set_cons_succ]
        -- 5: t4 := assign t85 : 4
        refine wpB_take (i := 5) (v := ?_) (get_of_drop rfl) (by kernel_rfl) (by kernel_rfl) (by kernel_rfl) (by kernel_rfl) (fun _ _ _ h => h) (Or.inl ⟨by rfl, ?_⟩) hHeld ?_
        rotate_left
        · (intro w hSw; (try dsimp only at hSw); go_simp <;> with_reducible rfl)
        try simp only [Act.put, List.setIfInBounds_toArray, List.set_cons_zero, List.set_cons_succ]
        refine wpB_done (by kernel_rfl) ?_ _
        clear X_4
        obtain ⟨w10, hdn⟩ : ∃ q_, q_ = w7.drew := ⟨_, rfl⟩
        rw [← hdn]
        replace K := hid (show Chg (fun j => M4 p b1 b2 b3 j ∨ O.ownBlock = some j) w w10 by rw [hdn]; exact K.out.drew)
        replace H := hid (show Rep w0 w10 p b1 b2 b3 X rt At nt ct O by rw [hdn]; exact H.out.far ((Chg.refl (fun _ => False) w7).drew))
        replace BX := hid (show w10.heap[b]? = some (.cells #[.int .i64 m.kind, .int .i64 m.view, .int .i64 m.src, .int .i64 m.dst, .int .i64 m.op, .int .i64 m.commit, .int .i64 m.normal, .slice B k d] 41 (0, 0)) by rw [hdn]; exact blk_drew BX.out)
        replace BP := hid H.out.blk
        clear hdn hHeld
        have U_5 : ∀ wx, Chg (fun _ => False) w10 wx → wx.cell? ⟨p, 5, none⟩ = some (.int .i64 rt.s.commit) := fun wx hx => (cellAt (hx.blk BP.out (fun h => h)) 5).trans rfl
        have P_5 : w10.cell? ⟨p, 5, none⟩ = some (.int .i64 rt.s.commit) := (cellAt BP.out 5).trans rfl
        have F_5 : w10.frozen? ⟨p, 5, none⟩ = false := freeAt BP.out 5
        have X_5 : ∀ wx, Chg (fun _ => False) w10 wx → wx.cell? ⟨b, 5, none⟩ = some (.int .i64 m.commit) := fun wx hx => (cellAt (hx.blk BX.out (fun h => h)) 5).trans rfl
        go_wp2_with fail
        refine wpB_start (fun wx : World => Chg (fun _ => False) w10 wx) (by kernel_rfl) ?_
        have hHeld : (fun wx : World => Chg (fun _ => False) w10 wx) _ := (Chg.refl (fun _ => False) w10).drew
        -- 0: t86 := move t0 : 30
        refine wpB_take (i := 0) (v := ?_) (get_of_drop rfl) (by kernel_rfl) (by kernel_rfl) (by kernel_rfl) (by kernel_rfl) (fun _ _ _ h => h) (Or.inl ⟨by rfl, ?_⟩) hHeld ?_
        rotate_left
        · (intro w hSw; (try dsimp only at hSw); go_simp <;> with_reducible rfl)
        try simp only [Act.put, List.setIfInBounds_toArray, List.set_cons_zero, List.set_cons_succ]
        -- 1: t87 := move t0 : 30
        refine wpB_take (i := 1) (v := ?_) (get_of_drop rfl) (by kernel_rfl) (by kernel_rfl) (by kernel_rfl) (by kernel_rfl) (fun _ _ _ h => h) (Or.inl ⟨by rfl, ?_⟩) hHeld ?_
        rotate_left
        · (intro w hSw; (try dsimp only at hSw); go_simp <;> with_reducible rfl)
        try simp only [Act.put, List.setIfInBounds_toArray, List.set_cons_zero, List.set_cons_succ]
        -- 2: t88 := nilCheck t87 : 0
        refine wpB_take (i := 2) (v := ?_) (get_of_drop rfl) (by kernel_rfl) (by kernel_rfl) (by kernel_rfl) (by kernel_rfl) (fun _ _ _ h => h) (Or.inl ⟨by rfl, ?_⟩) hHeld ?_
        rotate_left
        · (intro w hSw; (try dsimp only at hSw); go_simp <;> with_reducible rfl)
        try simp only [Act.put, List.setIfInBounds_toArray, List.set_cons_zero, List.set_cons_succ]
        -- 3: t89 := fieldAddr 100 t88 1 : 0
        refine wpB_take (i := 3) (v := ?_) (get_of_drop rfl) (by kernel_rfl) (by kernel_rfl) (by kernel_rfl) (by kernel_rfl) (fun _ _ _ h => h) (Or.inl ⟨by rfl, ?_⟩) hHeld ?_
        rotate_left
        · (intro w hSw; (try dsimp only at hSw); go_simp <;> with_reducible rfl)
        try simp only [Act.put, List.setIfInBounds_toArray, List.set_cons_zero, List.set_cons_succ]
        -- 4: t90 := fieldAddr 26 t89 2 : 0
        refine wpB_take (i := 4) (v := ?_) (get_of_drop rfl) (by kernel_rfl) (by kernel_rfl) (by kernel_rfl) (by kernel_rfl) (fun _ _ _ h => h) (Or.inl ⟨by rfl, ?_⟩) hHeld ?_
        rotate_left
        · (intro w hSw; (try dsimp only at hSw); go_simp <;> with_reducible rfl)
        try simp only [Act.put, List.setIfInBounds_toArray, List.set_cons_zero, List.set_cons_succ]
        -- 5: t91 := load 3 t90 : 3
        refine wpB_take (i := 5) (v := ?_) (get_of_drop rfl) (by kernel_rfl) (by kernel_rfl) (by kernel_rfl) (by kernel_rfl) (fun _ _ _ h => h) (Or.inl ⟨by rfl, ?_⟩) hHeld ?_
        rotate_left
        · (intro w hSw; (try dsimp only at hSw); go_simp <;> with_reducible rfl)
        try simp only [Act.put, List.setIfInBounds_toArray, List.set_cons_zero, List.set_cons_succ]
        -- 6: t92 := fieldAddr 41 t3 5 : 0
        refine wpB_take (i := 6) (v := ?_) (get_of_drop rfl) (by kernel_rfl) (by kernel_rfl) (by kernel_rfl) (by kernel_rfl) (fun _ _ _ h => h) (Or.inl ⟨by rfl, ?_⟩) hHeld ?_
        rotate_left
        · (intro w hSw; (try dsimp only at hSw); go_simp <;> with_reducible rfl)
        try simp only [Act.put, List.setIfInBounds_toArray, List.set_cons_zero, List.set_cons_succ]
        -- 7: t93 := load 3 t92 : 3
        refine wpB_take (i := 7) (v := ?_) (get_of_drop rfl) (by kernel_rfl) (by kernel_rfl) (by kernel_rfl) (by kernel_rfl) (fun _ _ _ h => h) (Or.inl ⟨by rfl, ?_⟩) hHeld ?_
        rotate_left
        · (intro w hSw; (try dsimp only at hSw); go_simp <;> with_reducible rfl)
        try simp only [Act.put, List.setIfInBounds_toArray, List.set_cons_zero, List.set_cons_succ]
        -- 8: t94 := move t0 : 30
        refine wpB_take (i := 8) (v := ?_) (get_of_drop rfl) (by kernel_rfl) (by kernel_rfl) (by kernel_rfl) (by kernel_rfl) (fun _ _ _ h => h) (Or.inl ⟨by rfl, ?_⟩) hHeld ?_
        rotate_left
        · (intro w hSw; (try dsimp only at hSw); go_simp <;> with_reducible rfl)
        try simp only [Act.put, List.setIfInBounds_toArray, List.set_cons_zero, List.set_cons_succ]
        -- 9: t95 := CALL fn76(t94) : 3
        refine wpB_act (i := 9) (by kernel_rfl) (get_of_drop rfl) (fun K hK => ?_)
        go_simp
        refine (length_any (H.out.far hHeld) HNT.out).mono ?_
        rintro e' wy ⟨rfl, rfl⟩
        refine hK.out _ _ ?_ (fun hHeld2 => ?_)
        · first | assumption | exact Chg.alloc hHeld _
        clear hHeld hK K
        have hHeld := hHeld2
        clear hHeld2
        try simp only [Act.put, List.setIfInBounds_toArray, List.set_cons_zero, List.set_cons_succ]
        -- 10: t96 := min(t93, t95) types [3, 3] : 3
        refine wpB_take (i := 10) (v := ?_) (get_of_drop rfl) (by kernel_rfl) (by kernel_rfl) (by kernel_rfl) (by kernel_rfl) (fun _ _ _ h => h) (Or.inl ⟨by rfl, ?_⟩) hHeld ?_
        rotate_left
        · (intro w hSw; (try dsimp only at hSw); go_simp <;> with_reducible rfl)
        try simp only [Act.put, List.setIfInBounds_toArray, List.set_cons_zero, List.set_cons_succ]
        -- 11: t97 := max(t91, t96) types [3, 3] : 3
        refine wpB_take (i := 11) (v := ?_) (get_of_drop rfl) (by kernel_rfl) (by kernel_rfl) (by kernel_rfl) (by kernel_rfl) (fun _ _ _ h => h) (Or.inl ⟨by rfl, ?_⟩) hHeld ?_
        rotate_left
        · (intro w hSw; (try dsimp only at hSw); go_simp <;> with_reducible rfl)
        try simp only [Act.put, List.setIfInBounds_toArray, List.set_cons_zero, List.set_cons_succ]
        -- 12: t98 := nilCheck t86 : 0
        refine wpB_take (i := 12) (v := ?_) (get_of_drop rfl) (by kernel_rfl) (by kernel_rfl) (by kernel_rfl) (by kernel_rfl) (fun _ _ _ h => h) (Or.inl ⟨by rfl, ?_⟩) hHeld ?_
        rotate_left
        · (intro w hSw; (try dsimp only at hSw); go_simp <;> with_reducible rfl)
        try simp only [Act.put, List.setIfInBounds_toArray, List.set_cons_zero, List.set_cons_succ]
        -- 13: t99 := fieldAddr 100 t98 1 : 0
        refine wpB_take (i := 13) (v := ?_) (get_of_drop rfl) (by kernel_rfl) (by kernel_rfl) (by kernel_rfl) (by kernel_rfl) (fun _ _ _ h => h) (Or.inl ⟨by rfl, ?_⟩) hHeld ?_
        rotate_left
        · (intro w hSw; (try dsimp only at hSw); go_simp <;> with_reducible rfl)
        try simp only [Act.put, List.setIfInBounds_toArray, List.set_cons_zero, List.set_cons_succ]
        -- 14: t100 := fieldAddr 26 t99 2 : 0
        refine wpB_take (i := 14) (v := ?_) (get_of_drop rfl) (by kernel_rfl) (by kernel_rfl) (by kernel_rfl) (by kernel_rfl) (fun _ _ _ h => h) (Or.inl ⟨by rfl, ?_⟩) hHeld ?_
        rotate_left
        · (intro w hSw; (try dsimp only at hSw); go_simp <;> with_reducible rfl)
        try simp only [Act.put, List.setIfInBounds_toArray, List.set_cons_zero, List.set_cons_succ]
        -- 15: t- := store 3 t100 t97 : 0 (BARRIER)
        refine wpB_bar (i := 15) (by kernel_rfl) (get_of_drop rfl) (by kernel_rfl) (fun K hK => ?_)
        go_simp
        refine hK.out _ _ (fun _ : World => True) ?_
        clear hHeld hK K
        have hHeld := trivial
        try simp only [Act.put, List.setIfInBounds_toArray, List.set_cons_zero, List.set_cons_succ]
        refine wpB_done (by kernel_rfl) ?_ _
        clear hHeld
        obtain ⟨q, hq⟩ : ∃ q_, q_ = mx rt.s.commit (mn m.commit (nt : Int)) := ⟨_, rfl⟩
        rw [← hq]
        have HQ := hid (show q = max rt.s.commit (min m.commit (nt : Int)) by rw [hq, mx_eq, mn_eq])
        obtain ⟨w11, hw11⟩ : ∃ q_, q_ = (w10.setCell ⟨p, 5, none⟩ (.int .i64 q)).drew := ⟨_, rfl⟩
        rw [← hw11]
        have K11 := hid (show Chg (fun k => k = p) w10 w11 by rw [hw11]; exact ((Chg.refl (fun k => k = p) w10).set (fun _ => rfl) _).drew)
        have HRS := hid (show raiseR rt m.commit = { rt with s := { rt.s with commit := q } } by unfold raiseR; rw [HQ.out, LT.out])
        replace H := hid (show Rep w0 w11 p b1 b2 b3 X (raiseR rt m.commit) At nt ct O by rw [HRS.out]; exact H.out.put (r' := { rt with s := { rt.s with commit := q } }) K11.out (by rw [hw11]; exact blk_drew (blk_set BP.out 5 _)) rfl rfl rfl rfl rfl)
        replace BX := hid (K11.out.blk BX.out HPBN.out)
        replace K := hid (K.out.trans K11.out (fun j hj _ => .inl (.inl hj)))
        clear hq hw11 U_5 P_5 F_5 X_5
        go_wp2_with fail
        obtain ⟨r3, hr3⟩ : ∃ q_, q_ = raiseR rt m.commit := ⟨_, rfl⟩
        rw [← hr3] at H
        have HR3 := hid hr3
        have HV3 := hid (show r3.s.view = rt.s.view ∧ r3.id = rt.id ∧ r3.out = rt.out by rw [hr3]; exact ⟨rfl, rfl, rfl⟩)
        clear hr3
        have X_2 : ∀ wx, Chg (fun _ => False) w11 wx → wx.cell? ⟨b, 2, none⟩ = some (.int .i64 m.src) := fun wx hx => (cellAt (hx.blk BX.out (fun h => h)) 2).trans rfl
        refine wpB_start (fun wx : World => Chg (fun _ => False) w11 wx) (by kernel_rfl) ?_
        have hHeld : (fun wx : World => Chg (fun _ => False) w11 wx) _ := (Chg.refl (fun _ => False) w11).drew
        -- 0: t103 := move t0 : 30
        refine wpB_take (i := 0) (v := ?_) (get_of_drop rfl) (by kernel_rfl) (by kernel_rfl) (by kernel_rfl) (by kernel_rfl) (fun _ _ _ h => h) (Or.inl ⟨by rfl, ?_⟩) hHeld ?_
        rotate_left
        · (intro w hSw; (try dsimp only at hSw); go_simp <;> with_reducible rfl)
        try simp only [Act.put, List.setIfInBounds_toArray, List.set_cons_zero, List.set_cons_succ]
        -- 1: t104 := fieldAddr 41 t3 2 : 0
        refine wpB_take (i := 1) (v := ?_) (get_of_drop rfl) (by kernel_rfl) (by kernel_rfl) (by kernel_rfl) (by kernel_rfl) (fun _ _ _ h => h) (Or.inl ⟨by rfl, ?_⟩) hHeld ?_
        rotate_left
        · (intro w hSw; (try dsimp only at hSw); go_simp <;> with_reducible rfl)
        try simp only [Act.put, List.setIfInBounds_toArray, List.set_cons_zero, List.set_cons_succ]
        -- 2: t105 := load 3 t104 : 3
        refine wpB_take (i := 2) (v := ?_) (get_of_drop rfl) (by kernel_rfl) (by kernel_rfl) (by kernel_rfl) (by kernel_rfl) (fun _ _ _ h => h) (Or.inl ⟨by rfl, ?_⟩) hHeld ?_
        rotate_left
        · (intro w hSw; (try dsimp only at hSw); go_simp <;> with_reducible rfl)
        try simp only [Act.put, List.setIfInBounds_toArray, List.set_cons_zero, List.set_cons_succ]
        -- 3: t106 := move t0 : 30
        refine wpB_take (i := 3) (v := ?_) (get_of_drop rfl) (by kernel_rfl) (by kernel_rfl) (by kernel_rfl) (by kernel_rfl) (fun _ _ _ h => h) (Or.inl ⟨by rfl, ?_⟩) hHeld ?_
        rotate_left
        · (intro w hSw; (try dsimp only at hSw); go_simp <;> with_reducible rfl)
        try simp only [Act.put, List.setIfInBounds_toArray, List.set_cons_zero, List.set_cons_succ]
        -- 4: t107 := CALL fn76(t106) : 3
        refine wpB_act (i := 4) (by kernel_rfl) (get_of_drop rfl) (fun K hK => ?_)
        go_simp
        refine (length_any (H.out.far hHeld) HNT.out).mono ?_
        rintro e' wy ⟨rfl, rfl⟩
        refine hK.out _ _ ?_ (fun hHeld2 => ?_)
        · first | assumption | exact Chg.alloc hHeld _
        clear hHeld hK K
        have hHeld := hHeld2
        clear hHeld2
        try simp only [Act.put, List.setIfInBounds_toArray, List.set_cons_zero, List.set_cons_succ]
        -- 5: t108 := build 41 [⟨0, #i64:2⟩, ⟨4, t107⟩] : 41
        refine wpB_take (i := 5) (v := ?_) (get_of_drop rfl) (by kernel_rfl) (by kernel_rfl) (by kernel_rfl) (by kernel_rfl) (fun _ _ _ h => h) (Or.inl ⟨by rfl, ?_⟩) hHeld ?_
        rotate_left
        · (intro w hSw; (try dsimp only at hSw); go_simp <;> with_reducible rfl)
        try simp only [Act.put, List.setIfInBounds_toArray, List.set_cons_zero, List.set_cons_succ]
        -- 6: t109 := CALL fn53(t103, t105, t108) : 0 (BARRIER)
        refine wpB_bar (i := 6) (by kernel_rfl) (get_of_drop rfl) (by kernel_rfl) (fun K hK => ?_)
        go_simp
        refine (send_any (m := msgOp 2 nt) (R := fun _ => False) (H.out.far hHeld) (at_nil_ _ _ _) (by decide) (by intro e he; cases he) (numW_msgOp (by decide) (numW_of (by have := HNT.out; omega))) ⟨numW_of (by rw [HV3.out.1]; have := HST.out; show _ ≤ rt.s.view ∧ rt.s.view ≤ _; omega), numW_of (by rw [HV3.out.2.1]; have := HCF.out; show _ ≤ rt.id ∧ rt.id ≤ _; omega), HSW.out⟩ (by rw [HV3.out.2.2]; have := HOU.out; show rt.out.length ≤ _; omega)).mono ?_
        rintro e' wg ⟨O', rfl, hg, hog, kg⟩
        have HG := hid hg
        have HOG := hid hog
        have KG := hid kg
        clear hg hog kg
        refine hK.out _ _ (fun _ : World => True) ?_
        clear hHeld hK K
        have hHeld := trivial
        try simp only [Act.put, List.setIfInBounds_toArray, List.set_cons_zero, List.set_cons_succ]
        refine wpB_done (by kernel_rfl) ?_ _
        clear X_2 hHeld
        go_wp2_with fail
        go_end0
        have e1 : followR r m = sendR r3 m.src (msgOp 2 (nt : Int)) := by
          rw [HEQ2.out]
          unfold follow3R
          rw [if_neg (fun h => by rcases h with h | h; have := HCH.out.symm.trans h; cases this; rw [← LT.out] at h; have := HOP.out; omega)]
          unfold follow4R
          rw [if_neg (fun h => by have := HCH.out.symm.trans h; cases this), if_neg (by rw [← LT.out]; have := HOP.out; omega), HR3.out, LT.out]
        rw [e1]
        refine ⟨At, nt, ct, O', rfl, HG.out, fun j hj => (HOG.out j hj).imp id (fun h => Nat.le_trans K.out.size h), K.out.drew.trans (KG.out) (fun j hj hl => ?_)⟩
        rcases hj with h | h
        · exact .inl (.inl h)
        · exact .inr h
    have hop2 : (m.op == (nt : Int) + 1) = true := by simp [hop]
    have HOP1 := hid hop
    clear hop
    go_wp2_with fail
    refine wpB_start (fun wx : World => Chg (fun _ => False) wt wx) (by kernel_rfl) ?_
    have hHeld : (fun wx : World => Chg (fun _ => False) wt wx) _ := (Chg.refl (fun _ => False) wt).drew
    -- 0: t27 := move t0 : 30
    refine wpB_take (i := 0) (v := ?_) (get_of_drop rfl) (by kernel_rfl) (by kernel_rfl) (by kernel_rfl) (by kernel_rfl) (fun _ _ _ h => h) (Or.inl ⟨by rfl, ?_⟩) hHeld ?_
    rotate_left
    · (intro w hSw; (try dsimp only at hSw); go_simp <;> with_reducible rfl)
    try simp only [Act.put, List.setIfInBounds_toArray, List.set_cons_zero, List.set_cons_succ]
    -- 1: t28 := nilCheck t27 : 0
    refine wpB_take (i := 1) (v := ?_) (get_of_drop rfl) (by kernel_rfl) (by kernel_rfl) (by kernel_rfl) (by kernel_rfl) (fun _ _ _ h => h) (Or.inl ⟨by rfl, ?_⟩) hHeld ?_
    rotate_left
    · (intro w hSw; (try dsimp only at hSw); go_simp <;> with_reducible rfl)
    try simp only [Act.put, List.setIfInBounds_toArray, List.set_cons_zero, List.set_cons_succ]
    -- 2: t29 := fieldAddr 100 t28 2 : 0
    refine wpB_take (i := 2) (v := ?_) (get_of_drop rfl) (by kernel_rfl) (by kernel_rfl) (by kernel_rfl) (by kernel_rfl) (fun _ _ _ h => h) (Or.inl ⟨by rfl, ?_⟩) hHeld ?_
    rotate_left
    · (intro w hSw; (try dsimp only at hSw); go_simp <;> with_reducible rfl)
    try simp only [Act.put, List.setIfInBounds_toArray, List.set_cons_zero, List.set_cons_succ]
    -- 3: t30 := load 4 t29 : 4
    refine wpB_take (i := 3) (v := ?_) (get_of_drop rfl) (by kernel_rfl) (by kernel_rfl) (by kernel_rfl) (by kernel_rfl) (fun _ _ _ h => h) (Or.inl ⟨by rfl, ?_⟩) hHeld ?_
    rotate_left
    · (intro w hSw; (try dsimp only at hSw); go_simp <;> with_reducible rfl)
    try simp only [Act.put, List.setIfInBounds_toArray, List.set_cons_zero, List.set_cons_succ]
    -- 4: t31 := unOp UnOp.not 4 t30 : 4
    refine wpB_take (i := 4) (v := ?_) (get_of_drop rfl) (by kernel_rfl) (by kernel_rfl) (by kernel_rfl) (by kernel_rfl) (fun _ _ _ h => h) (Or.inl ⟨by rfl, ?_⟩) hHeld ?_
    rotate_left
    · (intro w hSw; (try dsimp only at hSw); go_simp <;> with_reducible rfl)
    try simp only [Act.put, List.setIfInBounds_toArray, List.set_cons_zero, List.set_cons_succ]
    -- 5: t32 := move t31 : 4
    refine wpB_take (i := 5) (v := ?_) (get_of_drop rfl) (by kernel_rfl) (by kernel_rfl) (by kernel_rfl) (by kernel_rfl) (fun _ _ _ h => h) (Or.inl ⟨by rfl, ?_⟩) hHeld ?_
    rotate_left
    · (intro w hSw; (try dsimp only at hSw); go_simp <;> with_reducible rfl)
    try simp only [Act.put, List.setIfInBounds_toArray, List.set_cons_zero, List.set_cons_succ]
    -- 6: t33 := fieldAddr 41 t3 0 : 0   [if ⟨5, true⟩]
    refine wpB_take (i := 6) (v := ?_) (get_of_drop rfl) (by kernel_rfl) (by kernel_rfl) (by kernel_rfl) (by kernel_rfl) (fun _ _ _ h => h) (Or.inl ⟨by rfl, ?_⟩) hHeld ?_
    rotate_left
    · (intro w hSw; (try dsimp only at hSw); go_simp <;> with_reducible rfl)
    try simp only [Act.put, List.setIfInBounds_toArray, List.set_cons_zero, List.set_cons_succ]
    -- 7: t34 := load 3 t33 : 3   [if ⟨5, true⟩]
    refine wpB_take (i := 7) (v := ?_) (get_of_drop rfl) (by kernel_rfl) (by kernel_rfl) (by kernel_rfl) (by kernel_rfl) (fun _ _ _ h => h) (Or.inl ⟨by rfl, ?_⟩) hHeld ?_
    rotate_left
    · (intro w hSw; (try dsimp only at hSw); go_simp <;> with_reducible rfl)
    try simp only [Act.put, List.setIfInBounds_toArray, List.set_cons_zero, List.set_cons_succ]
    -- 8: t35 := binOp BinOp.eql 3 t34 #i64:1 3 : 4   [if ⟨5, true⟩]
    refine wpB_take (i := 8) (v := ?_) (get_of_drop rfl) (by kernel_rfl) (by kernel_rfl) (by kernel_rfl) (by kernel_rfl) (fun _ _ _ h => h) (Or.inl ⟨by rfl, ?_⟩) hHeld ?_
    rotate_left
    · (intro w hSw; (try dsimp only at hSw); go_simp <;> with_reducible rfl)
    try simp only [Act.put, List.setIfInBounds_toArray, List.set_cons_zero, List.set_cons_succ]
    -- 9: t36 := pick t32 t35 #false : 4
    refine wpB_take (i := 9) (v := ?_) (get_of_drop rfl) (by kernel_rfl) (by kernel_rfl) (by kernel_rfl) (by kernel_rfl) (fun _ _ _ h => h) (Or.inl ⟨by rfl, ?_⟩) hHeld ?_
    rotate_left
    · (intro w hSw; (try dsimp only at hSw); go_simp <;> with_reducible rfl)
    try simp only [Act.put, List.setIfInBounds_toArray, List.set_cons_zero, List.set_cons_succ]
    -- 10: t37 := move t36 : 4
    refine wpB_take (i := 10) (v := ?_) (get_of_drop rfl) (by kernel_rfl) (by kernel_rfl) (by kernel_rfl) (by kernel_rfl) (fun _ _ _ h => h) (Or.inl ⟨by rfl, ?_⟩) hHeld ?_
    rotate_left
    · (intro w hSw; (try dsimp only at hSw); go_simp <;> with_reducible rfl)
    try simp only [Act.put, List.setIfInBounds_toArray, List.set_cons_zero, List.set_cons_succ]
    -- 11: t38 := fieldAddr 41 t3 4 : 0   [if ⟨10, true⟩]
    refine wpB_take (i := 11) (v := ?_) (get_of_drop rfl) (by kernel_rfl) (by kernel_rfl) (by kernel_rfl) (by kernel_rfl) (fun _ _ _ h => h) (Or.inl ⟨by rfl, ?_⟩) hHeld ?_
    rotate_left
    · (intro w hSw; (try dsimp only at hSw); go_simp <;> with_reducible rfl)
    try simp only [Act.put, List.setIfInBounds_toArray, List.set_cons_zero, List.set_cons_succ]
    -- 12: t39 := load 3 t38 : 3   [if ⟨10, true⟩]
    refine wpB_take (i := 12) (v := ?_) (get_of_drop rfl) (by kernel_rfl) (by kernel_rfl) (by kernel_rfl) (by kernel_rfl) (fun _ _ _ h => h) (Or.inl ⟨by rfl, ?_⟩) hHeld ?_
    rotate_left
    · (intro w hSw; (try dsimp only at hSw); go_simp <;> with_reducible rfl)
    try simp only [Act.put, List.setIfInBounds_toArray, List.set_cons_zero, List.set_cons_succ]
    -- 13: t40 := move t0 : 30   [if ⟨10, true⟩]
    refine wpB_take (i := 13) (v := ?_) (get_of_drop rfl) (by kernel_rfl) (by kernel_rfl) (by kernel_rfl) (by kernel_rfl) (fun _ _ _ h => h) (Or.inl ⟨by rfl, ?_⟩) hHeld ?_
    rotate_left
    · (intro w hSw; (try dsimp only at hSw); go_simp <;> with_reducible rfl)
    try simp only [Act.put, List.setIfInBounds_toArray, List.set_cons_zero, List.set_cons_succ]
    -- 14: t41 := CALL fn76(t40) : 3   [if ⟨10, true⟩]
    refine wpB_act (i := 14) (by kernel_rfl) (get_of_drop rfl) (fun K hK => ?_)
    go_simp
    refine (length_any (H.out.far hHeld) HNT.out).mono ?_
    rintro e' wy ⟨rfl, rfl⟩
    refine hK.out _ _ ?_ (fun hHeld2 => ?_)
    · first | assumption | exact Chg.alloc hHeld _
    clear hHeld hK K
    have hHeld := hHeld2
    clear hHeld2
    try simp only [Act.put, List.setIfInBounds_toArray, List.set_cons_zero, List.set_cons_succ]
    -- 15: t42 := binOp BinOp.add 3 t41 #i64:1 3 : 3   [if ⟨10, true⟩]
    refine wpB_take (i := 15) (v := ?_) (get_of_drop rfl) (by kernel_rfl) (by kernel_rfl) (by kernel_rfl) (by kernel_rfl) (fun _ _ _ h => h) (Or.inl ⟨by rfl, ?_⟩) hHeld ?_
    rotate_left
    · (intro w hSw; (try dsimp only at hSw); go_simp <;> with_reducible rfl)
    try simp only [Act.put, List.setIfInBounds_toArray, List.set_cons_zero, List.set_cons_succ]
    -- 16: t43 := binOp BinOp.eql 3 t39 t42 3 : 4   [if ⟨10, true⟩]
    refine wpB_take (i := 16) (v := ?_) (get_of_drop rfl) (by kernel_rfl) (by kernel_rfl) (by kernel_rfl) (by kernel_rfl) (fun _ _ _ h => h) (Or.inl ⟨by rfl, ?_⟩) hHeld ?_
    rotate_left
    · (intro w hSw; (try dsimp only at hSw); go_simp <;> with_reducible rfl)
    try simp only [Act.put, List.setIfInBounds_toArray, List.set_cons_zero, List.set_cons_succ]
    -- 17: t44 := pick t37 t43 #false : 4
    refine wpB_take (i := 17) (v := ?_) (get_of_drop rfl) (by kernel_rfl) (by kernel_rfl) (by kernel_rfl) (by kernel_rfl) (fun _ _ _ h => h) (Or.inl ⟨by rfl, ?_⟩) hHeld ?_
    rotate_left
    · (intro w hSw; (try dsimp only at hSw); go_simp <;> with_reducible rfl)
    try simp only [Act.put, List.setIfInBounds_toArray, List.set_cons_zero, List.set_cons_succ]
    refine wpB_done (by kernel_rfl) ?_ _
    obtain ⟨w6, hdn⟩ : ∃ q_, q_ = wt.drew := ⟨_, rfl⟩
    rw [← hdn]
    replace K := hid (show Chg (fun j => M4 p b1 b2 b3 j ∨ O.ownBlock = some j) w w6 by rw [hdn]; exact K.out.drew)
    replace H := hid (show Rep w0 w6 p b1 b2 b3 X rt At nt ct O by rw [hdn]; exact H.out.far ((Chg.refl (fun _ => False) wt).drew))
    replace BX := hid (show w6.heap[b]? = some (.cells #[.int .i64 m.kind, .int .i64 m.view, .int .i64 m.src, .int .i64 m.dst, .int .i64 m.op, .int .i64 m.commit, .int .i64 m.normal, .slice B k d] 41 (0, 0)) by rw [hdn]; exact blk_drew BX.out)
    replace BP := hid H.out.blk
    clear hdn hHeld
    clear U_8 X_0 X_4 hk2 hop2 hwr hntb
    have HKL := hid (show k = 1 by have h1 := HM.out.1; have h2 := (msgR_log HMR.out).2.2.1 HK1.out; omega)
    have HNT63 := hid (show nt ≤ 63 by have h1 := (msgR_num HMR.out).2.2.2.2.2.1; have h2 := HOP1.out; omega)
    have HM6 := hid (HM.out.chg K.out (fun j hj => HR.out j hj.1 hj.2))
    have HAL := hid H.out.log
    have U_7 : ∀ wx, Chg (fun _ => False) w6 wx → wx.cell? ⟨p, 7, none⟩ = some (.slice At nt ct) := fun wx hx => (cellAt (hx.blk BP.out (fun h => h)) 7).trans rfl
    have P_7 : w6.cell? ⟨p, 7, none⟩ = some (.slice At nt ct) := (cellAt BP.out 7).trans rfl
    have X_7 : ∀ wx, Chg (fun _ => False) w6 wx → wx.cell? ⟨b, 7, none⟩ = some (.slice B k d) := fun wx hx => (cellAt (hx.blk BX.out (fun h => h)) 7).trans rfl
    go_wp2_with fail
    refine wpB_start (fun wx : World => Chg (fun _ => False) w6 wx) (by kernel_rfl) ?_
    have hHeld : (fun wx : World => Chg (fun _ => False) w6 wx) _ := (Chg.refl (fun _ => False) w6).drew
    -- 0: t45 := move t0 : 30
    refine wpB_take (i := 0) (v := ?_) (get_of_drop rfl) (by kernel_rfl) (by kernel_rfl) (by kernel_rfl) (by kernel_rfl) (fun _ _ _ h => h) (Or.inl ⟨by rfl, ?_⟩) hHeld ?_
    rotate_left
    · (intro w hSw; (try dsimp only at hSw); go_simp <;> with_reducible rfl)
    try simp only [Act.put, List.setIfInBounds_toArray, List.set_cons_zero, List.set_cons_succ]
    -- 1: t46 := move t0 : 30
    refine wpB_take (i := 1) (v := ?_) (get_of_drop rfl) (by kernel_rfl) (by kernel_rfl) (by kernel_rfl) (by kernel_rfl) (fun _ _ _ h => h) (Or.inl ⟨by rfl, ?_⟩) hHeld ?_
    rotate_left
    · (intro w hSw; (try dsimp only at hSw); go_simp <;> with_reducible rfl)
    try simp only [Act.put, List.setIfInBounds_toArray, List.set_cons_zero, List.set_cons_succ]
    -- 2: t47 := nilCheck t46 : 0
    refine wpB_take (i := 2) (v := ?_) (get_of_drop rfl) (by kernel_rfl) (by kernel_rfl) (by kernel_rfl) (by kernel_rfl) (fun _ _ _ h => h) (Or.inl ⟨by rfl, ?_⟩) hHeld ?_
    rotate_left
    · (intro w hSw; (try dsimp only at hSw); go_simp <;> with_reducible rfl)
    try simp only [Act.put, List.setIfInBounds_toArray, List.set_cons_zero, List.set_cons_succ]
    -- 3: t48 := fieldAddr 100 t47 1 : 0
    refine wpB_take (i := 3) (v := ?_) (get_of_drop rfl) (by kernel_rfl) (by kernel_rfl) (by kernel_rfl) (by kernel_rfl) (fun _ _ _ h => h) (Or.inl ⟨by rfl, ?_⟩) hHeld ?_
    rotate_left
    · (intro w hSw; (try dsimp only at hSw); go_simp <;> with_reducible rfl)
    try simp only [Act.put, List.setIfInBounds_toArray, List.set_cons_zero, List.set_cons_succ]
    -- 4: t49 := fieldAddr 26 t48 4 : 0
    refine wpB_take (i := 4) (v := ?_) (get_of_drop rfl) (by kernel_rfl) (by kernel_rfl) (by kernel_rfl) (by kernel_rfl) (fun _ _ _ h => h) (Or.inl ⟨by rfl, ?_⟩) hHeld ?_
    rotate_left
    · (intro w hSw; (try dsimp only at hSw); go_simp <;> with_reducible rfl)
    try simp only [Act.put, List.setIfInBounds_toArray, List.set_cons_zero, List.set_cons_succ]
    -- 5: t50 := load 24 t49 : 24
    refine wpB_take (i := 5) (v := ?_) (get_of_drop rfl) (by kernel_rfl) (by kernel_rfl) (by kernel_rfl) (by kernel_rfl) (fun _ _ _ h => h) (Or.inl ⟨by rfl, ?_⟩) hHeld ?_
    rotate_left
    · (intro w hSw; (try dsimp only at hSw); go_simp <;> with_reducible rfl)
    try simp only [Act.put, List.setIfInBounds_toArray, List.set_cons_zero, List.set_cons_succ]
    -- 7: t52 := fieldAddr 41 t3 7 : 0
    refine wpB_take (i := 7) (v := ?_) (get_of_drop rfl) (by kernel_rfl) (by kernel_rfl) (by kernel_rfl) (by kernel_rfl) (fun _ _ _ h => h) (Or.inl ⟨by rfl, ?_⟩) hHeld ?_
    rotate_left
    · (intro w hSw; (try dsimp only at hSw); go_simp <;> with_reducible rfl)
    try simp only [Act.put, List.setIfInBounds_toArray, List.set_cons_zero, List.set_cons_succ]
    -- 8: t53 := load 24 t52 : 24
    refine wpB_take (i := 8) (v := ?_) (get_of_drop rfl) (by kernel_rfl) (by kernel_rfl) (by kernel_rfl) (by kernel_rfl) (fun _ _ _ h => h) (Or.inl ⟨by rfl, ?_⟩) hHeld ?_
    rotate_left
    · (intro w hSw; (try dsimp only at hSw); go_simp <;> with_reducible rfl)
    try simp only [Act.put, List.setIfInBounds_toArray, List.set_cons_zero, List.set_cons_succ]
    -- 6: t51 := CALL fn77(t50) : 24
    refine wpB_act (i := 6) (by kernel_rfl) (get_of_drop rfl) (fun K hK => ?_)
    go_simp
    refine (clip_any HAL.out.2.1 (by have := HNT.out; omega)).mono ?_
    rintro e' wy ⟨rfl, rfl⟩
    refine hK.out _ _ ?_ (fun hHeld2 => ?_)
    · first | assumption | exact HCY.out | exact HC7.out
    clear hHeld hK K
    have hHeld := hHeld2
    clear hHeld2
    try simp only [Act.put, List.setIfInBounds_toArray, List.set_cons_zero, List.set_cons_succ]
    -- 9: t54 := CALL fn47(t53) : 24
    refine wpB_act (i := 9) (by kernel_rfl) (get_of_drop rfl) (fun K hK => ?_)
    go_simp
    refine (rcopied_any (HM6.out.chg hHeld (fun _ _ h => h)) (by have := HKL.out; omega) (fits_right (msgR_log HMR.out).2.1)).mono ?_
    rintro e' wy ⟨B5, d5, rfl, hat, hcy⟩
    have HCY := hid (show Chg (fun _ => False) w6 wy from hHeld.trans hcy (fun _ h _ => h))
    have HAT := hid hat
    clear hcy hat
    refine hK.out _ _ ?_ (fun hHeld2 => ?_)
    · first | assumption | exact HCY.out | exact HC7.out
    clear hHeld hK K
    have hHeld := hHeld2
    clear hHeld2
    try simp only [Act.put, List.setIfInBounds_toArray, List.set_cons_zero, List.set_cons_succ]
    -- 10: t55 := append(t51, t54) types [24, 24] : 24
    refine wpB_act (i := 10) (by kernel_rfl) (get_of_drop rfl) (fun K hK => ?_)
    refine join_step (d := entryK) _ rfl (.tmp 51) (.tmp 54) 24 56 (.agg #[.int .i64 0, .int .i64 0, .int .i64 0, .int .i64 0, .int .i64 0, .int .i64 0, .int .i64 0, .slice none 0 0, .slice none 0 0]) 104 rfl Try.underlying24 infoEntryP rfl (by decide) (by decide) (A := At) (n := nt) (B := B5) (m := k) (c := d5) rfl rfl (at_clip (HAL.out.chg HCY.out (fun _ _ h => h))) HAT.out.at (by have := HKL.out; omega) (by have := HNT.out; have := HKL.out; omega) ?_
    intro A7 c7 w7 h7 k7
    have HC7 := hid (show Chg (fun _ => False) w6 w7 from HCY.out.trans k7 (fun _ h _ => h))
    have HL7 := hid h7
    have BP7 := hid (HC7.out.blk BP.out (fun h => h))
    have z7 : w7.cell? ⟨p, 7, none⟩ = some (.slice At nt ct) := (cellAt BP7.out 7).trans rfl
    have f7 : w7.frozen? ⟨p, 7, none⟩ = false := freeAt BP7.out 7
    clear h7 k7
    refine hK.out _ _ ?_ (fun hHeld2 => ?_)
    · first | assumption | exact HCY.out | exact HC7.out
    clear hHeld hK K
    have hHeld := hHeld2
    clear hHeld2
    try simp only [Act.put, List.setIfInBounds_toArray, List.set_cons_zero, List.set_cons_succ]
    -- 11: t56 := nilCheck t45 : 0
    refine wpB_take (i := 11) (v := ?_) (get_of_drop rfl) (by kernel_rfl) (by kernel_rfl) (by kernel_rfl) (by kernel_rfl) (fun _ _ _ h => h) (Or.inl ⟨by rfl, ?_⟩) hHeld ?_
    rotate_left
    · (intro w hSw; (try dsimp only at hSw); go_simp <;> with_reducible rfl)
    try simp only [Act.put, List.setIfInBounds_toArray, List.set_cons_zero, List.set_cons_succ]
    -- 12: t57 := fieldAddr 100 t56 1 : 0
    refine wpB_take (i := 12) (v := ?_) (get_of_drop rfl) (by kernel_rfl) (by kernel_rfl) (by kernel_rfl) (by kernel_rfl) (fun _ _ _ h => h) (Or.inl ⟨by rfl, ?_⟩) hHeld ?_
    rotate_left
    · (intro w hSw; (try dsimp only at hSw); go_simp <;> with_reducible rfl)
    try simp only [Act.put, List.setIfInBounds_toArray, List.set_cons_zero, List.set_cons_succ]
    -- 13: t58 := fieldAddr 26 t57 4 : 0
    refine wpB_take (i := 13) (v := ?_) (get_of_drop rfl) (by kernel_rfl) (by kernel_rfl) (by kernel_rfl) (by kernel_rfl) (fun _ _ _ h => h) (Or.inl ⟨by rfl, ?_⟩) hHeld ?_
    rotate_left
    · (intro w hSw; (try dsimp only at hSw); go_simp <;> with_reducible rfl)
    try simp only [Act.put, List.setIfInBounds_toArray, List.set_cons_zero, List.set_cons_succ]
    -- 14: t- := store 24 t58 t55 : 0 (BARRIER)
    refine wpB_bar (i := 14) (by kernel_rfl) (get_of_drop rfl) (by kernel_rfl) (fun K hK => ?_)
    go_simp
    refine hK.out _ _ (fun _ : World => True) ?_
    clear hHeld hK K
    have hHeld := trivial
    try simp only [Act.put, List.setIfInBounds_toArray, List.set_cons_zero, List.set_cons_succ]
    refine wpB_done (by kernel_rfl) ?_ _
    clear U_7 P_7 X_7 hHeld
    obtain ⟨w8, hw8⟩ : ∃ q_, q_ = w7.setCell ⟨p, 7, none⟩ (.slice A7 (nt + k) c7) := ⟨_, rfl⟩
    rw [← hw8]
    have K8 := hid (show Chg (fun j => j = p) w7 w8 by rw [hw8]; exact (Chg.refl (fun j => j = p) w7).set (fun _ => rfl) _)
    obtain ⟨ra, hra⟩ : ∃ q_, q_ = putR rt m.log := ⟨_, rfl⟩
    have HLA := hid (show Ty.At entryK w8 (Lg X O) A7 (nt + k) c7 ra.s.log by
      rw [hra]
      refine (HL7.out.chg K8.out (fun j hj e => ?_)).mono (fun j hj => ?_)
      · have h1 := lt_of_blk BP.out
        have h2 : p < w6.heap.size := lt_of_blk BP.out
        have h3 := HCY.out.size
        rcases hj.1 with h | h | h
        · exact h.1 (H.out.sub.1 _ (.inl e))
        · rcases h with h | h <;> (have : w6.heap.size ≤ j := h; omega)
        · omega
      · have h3 := HCY.out.size
        rcases hj.1 with h | h | h
        · exact h
        · refine H.out.new_lg ?_
          rcases h with h | h <;> exact h
        · exact H.out.new_lg (Nat.le_trans h3 h))
    have H8 := hid (show Rep w0 w8 p b1 b2 b3 X ra A7 (nt + k) c7 O from (H.out.far HC7.out).relog K8.out (by rw [hw8, hra]; exact blk_set BP7.out 7 _) HLA.out (by rw [hra]; rfl) (by rw [hra]; rfl) (by rw [hra]; rfl) (by rw [hra]; rfl))
    have BX8 := hid (K8.out.blk (HC7.out.blk BX.out (fun h => h)) HPBN.out)
    have K9 := hid ((K.out.trans HC7.out (fun _ h _ => h.elim)).trans K8.out (fun j hj _ => .inl (.inl hj)))
    have HCH8 := hid (show ra.ch = false by rw [hra]; exact HCH.out)
    have HEQ2 := hid (show followR r m = follow4R (follow3R ra m) m by rw [HEQ.out]; unfold follow2R; rw [if_pos ⟨HCH.out, HK1.out, by rw [← LT.out]; exact HOP1.out⟩, hra])
    have HST8 := hid (show 0 ≤ ra.s.view ∧ ra.s.view ≤ 1099511627776 by rw [hra]; exact HST.out)
    have HCF8 := hid (show 0 ≤ ra.id ∧ ra.id ≤ 6 by rw [hra]; exact HCF.out)
    have HOU8 := hid (show ra.out.length ≤ 710 by rw [hra]; exact HOU.out)
    obtain ⟨na, hna⟩ : ∃ q_, q_ = nt + k := ⟨_, rfl⟩
    have HNA := hid (show na ≤ 64 by have := HNT63.out; have := HKL.out; omega)
    have LA := hid (show na = ra.s.log.length by rw [hna, hra]; show nt + k = (rt.s.log ++ m.log).length; rw [List.length_append, ← LT.out, ← HM.out.1])
    rw [← hna] at H8
    have BP8 := hid H8.out.blk
    clear hw8 hra hna z7 f7 HLA HL7 HNT63 HAT HAL
    replace H := H8
    replace BX := BX8
    replace K := K9
    replace BP := BP8
    replace HCH := HCH8
    replace HST := HST8
    replace HCF := HCF8
    replace HOU := HOU8
    replace HNT := HNA
    replace LT := LA
    have U_8 : ∀ wx, Chg (fun _ => False) w8 wx → wx.cell? ⟨p, 8, none⟩ = some (.bool false) := fun wx hx => by rw [← HCH.out]; exact (cellAt (hx.blk BP.out (fun h => h)) 8).trans rfl
    have X_4 : ∀ wx, Chg (fun _ => False) w8 wx → wx.cell? ⟨b, 4, none⟩ = some (.int .i64 m.op) := fun wx hx => (cellAt (hx.blk BX.out (fun h => h)) 4).trans rfl
    go_wp2_with fail
    refine wpB_start (fun wx : World => Chg (fun _ => False) w8 wx) (by kernel_rfl) ?_
    have hHeld : (fun wx : World => Chg (fun _ => False) w8 wx) _ := (Chg.refl (fun _ => False) w8).drew
    -- 0: t59 := move t0 : 30
    refine wpB_take (i := 0) (v := ?_) (get_of_drop rfl) (by kernel_rfl) (by kernel_rfl) (by kernel_rfl) (by kernel_rfl) (fun _ _ _ h => h) (Or.inl ⟨by rfl, ?_⟩) hHeld ?_
    rotate_left
    · (intro w hSw; (try dsimp only at hSw); go_simp <;> with_reducible rfl)
    try simp only [Act.put, List.setIfInBounds_toArray, List.set_cons_zero, List.set_cons_succ]
    -- 1: t60 := nilCheck t59 : 0
    refine wpB_take (i := 1) (v := ?_) (get_of_drop rfl) (by kernel_rfl) (by kernel_rfl) (by kernel_rfl) (by kernel_rfl) (fun _ _ _ h => h) (Or.inl ⟨by rfl, ?_⟩) hHeld ?_
    rotate_left
    · (intro w hSw; (try dsimp only at hSw); go_simp <;> with_reducible rfl)
    try simp only [Act.put, List.setIfInBounds_toArray, List.set_cons_zero, List.set_cons_succ]
    -- 2: t61 := fieldAddr 100 t60 2 : 0
    refine wpB_take (i := 2) (v := ?_) (get_of_drop rfl) (by kernel_rfl) (by kernel_rfl) (by kernel_rfl) (by kernel_rfl) (fun _ _ _ h => h) (Or.inl ⟨by rfl, ?_⟩) hHeld ?_
    rotate_left
    · (intro w hSw; (try dsimp only at hSw); go_simp <;> with_reducible rfl)
    try simp only [Act.put, List.setIfInBounds_toArray, List.set_cons_zero, List.set_cons_succ]
    -- 3: t62 := load 4 t61 : 4
    refine wpB_take (i := 3) (v := ?_) (get_of_drop rfl) (by kernel_rfl) (by kernel_rfl) (by kernel_rfl) (by kernel_rfl) (fun _ _ _ h => h) (Or.inl ⟨by rfl, ?_⟩) hHeld ?_
    rotate_left
    · (intro w hSw; (try dsimp only at hSw); go_simp <;> with_reducible rfl)
    try simp only [Act.put, List.setIfInBounds_toArray, List.set_cons_zero, List.set_cons_succ]
    -- 4: t63 := move t62 : 4
    refine wpB_take (i := 4) (v := ?_) (get_of_drop rfl) (by kernel_rfl) (by kernel_rfl) (by kernel_rfl) (by kernel_rfl) (fun _ _ _ h => h) (Or.inl ⟨by rfl, ?_⟩) hHeld ?_
    rotate_left
    · (intro w hSw; (try dsimp only at hSw); go_simp <;> with_reducible rfl)
    try simp only [Act.put, List.setIfInBounds_toArray, List.set_cons_zero, List.set_cons_succ]
    -- 5: t64 := fieldAddr 41 t3 4 : 0   [if ⟨4, false⟩]
    refine wpB_take (i := 5) (v := ?_) (get_of_drop rfl) (by kernel_rfl) (by kernel_rfl) (by kernel_rfl) (by kernel_rfl) (fun _ _ _ h => h) (Or.inl ⟨by rfl, ?_⟩) hHeld ?_
    rotate_left
    · (intro w hSw; (try dsimp only at hSw); go_simp <;> with_reducible rfl)
    try simp only [Act.put, List.setIfInBounds_toArray, List.set_cons_zero, List.set_cons_succ]
    -- 6: t65 := load 3 t64 : 3   [if ⟨4, false⟩]
    refine wpB_take (i := 6) (v := ?_) (get_of_drop rfl) (by kernel_rfl) (by kernel_rfl) (by kernel_rfl) (by kernel_rfl) (fun _ _ _ h => h) (Or.inl ⟨by rfl, ?_⟩) hHeld ?_
    rotate_left
    · (intro w hSw; (try dsimp only at hSw); go_simp <;> with_reducible rfl)
    try simp only [Act.put, List.setIfInBounds_toArray, List.set_cons_zero, List.set_cons_succ]
    -- 7: t66 := move t0 : 30   [if ⟨4, false⟩]
    refine wpB_take (i := 7) (v := ?_) (get_of_drop rfl) (by kernel_rfl) (by kernel_rfl) (by kernel_rfl) (by kernel_rfl) (fun _ _ _ h => h) (Or.inl ⟨by rfl, ?_⟩) hHeld ?_
    rotate_left
    · (intro w hSw; (try dsimp only at hSw); go_simp <;> with_reducible rfl)
    try simp only [Act.put, List.setIfInBounds_toArray, List.set_cons_zero, List.set_cons_succ]
    -- 8: t67 := CALL fn76(t66) : 3   [if ⟨4, false⟩]
    refine wpB_act (i := 8) (by kernel_rfl) (get_of_drop rfl) (fun K hK => ?_)
    go_simp
    refine (length_any (H.out.far hHeld) HNT.out).mono ?_
    rintro e' wy ⟨rfl, rfl⟩
    refine hK.out _ _ ?_ (fun hHeld2 => ?_)
    · first | assumption | exact Chg.alloc hHeld _
    clear hHeld hK K
    have hHeld := hHeld2
    clear hHeld2
    try simp only [Act.put, List.setIfInBounds_toArray, List.set_cons_zero, List.set_cons_succ]
    -- 9: t68 := binOp BinOp.gtr 3 t65 t67 3 : 4   [if ⟨4, false⟩]
    refine wpB_take (i := 9) (v := ?_) (get_of_drop rfl) (by kernel_rfl) (by kernel_rfl) (by kernel_rfl) (by kernel_rfl) (fun _ _ _ h => h) (Or.inl ⟨by rfl, ?_⟩) hHeld ?_
    rotate_left
    · (intro w hSw; (try dsimp only at hSw); go_simp <;> with_reducible rfl)
    try simp only [Act.put, List.setIfInBounds_toArray, List.set_cons_zero, List.set_cons_succ]
    -- 10: t69 := pick t63 #true t68 : 4
    refine wpB_take (i := 10) (v := ?_) (get_of_drop rfl) (by kernel_rfl) (by kernel_rfl) (by kernel_rfl) (by kernel_rfl) (fun _ _ _ h => h) (Or.inl ⟨by rfl, ?_⟩) hHeld ?_
    rotate_left
    · (intro w hSw; (try dsimp only at hSw); go_simp <;> with_reducible rfl)
    try simp only [Act.put, List.setIfInBounds_toArray, List.set_cons_zero, List.set_cons_succ]
    refine wpB_done (by kernel_rfl) ?_ _
    obtain ⟨w7, hdn⟩ : ∃ q_, q_ = w8.drew := ⟨_, rfl⟩
    rw [← hdn]
    replace K := hid (show Chg (fun j => M4 p b1 b2 b3 j ∨ O.ownBlock = some j) w w7 by rw [hdn]; exact K.out.drew)
    replace H := hid (show Rep w0 w7 p b1 b2 b3 X ra A7 na c7 O by rw [hdn]; exact H.out.far ((Chg.refl (fun _ => False) w8).drew))
    replace BX := hid (show w7.heap[b]? = some (.cells #[.int .i64 m.kind, .int .i64 m.view, .int .i64 m.src, .int .i64 m.dst, .int .i64 m.op, .int .i64 m.commit, .int .i64 m.normal, .slice B k d] 41 (0, 0)) by rw [hdn]; exact blk_drew BX.out)
    replace BP := hid H.out.blk
    clear hdn hHeld
    clear U_8 X_4
    by_cases hop : (na : Int) < m.op
    · have HOP := hid hop
      have X_2 : ∀ wx, Chg (fun _ => False) w7 wx → wx.cell? ⟨b, 2, none⟩ = some (.int .i64 m.src) := fun wx hx => (cellAt (hx.blk BX.out (fun h => h)) 2).trans rfl
      go_wp2_with fail
      refine wpB_start (fun wx : World => Chg (fun _ => False) w7 wx) (by kernel_rfl) ?_
      have hHeld : (fun wx : World => Chg (fun _ => False) w7 wx) _ := (Chg.refl (fun _ => False) w7).drew
      -- 0: t70 := move t0 : 30
      refine wpB_take (i := 0) (v := ?_) (get_of_drop rfl) (by kernel_rfl) (by kernel_rfl) (by kernel_rfl) (by kernel_rfl) (fun _ _ _ h => h) (Or.inl ⟨by rfl, ?_⟩) hHeld ?_
      rotate_left
      · (intro w hSw; (try dsimp only at hSw); go_simp <;> with_reducible rfl)
      try simp only [Act.put, List.setIfInBounds_toArray, List.set_cons_zero, List.set_cons_succ]
      -- 1: t71 := fieldAddr 41 t3 2 : 0
      refine wpB_take (i := 1) (v := ?_) (get_of_drop rfl) (by kernel_rfl) (by kernel_rfl) (by kernel_rfl) (by kernel_rfl) (fun _ _ _ h => h) (Or.inl ⟨by rfl, ?_⟩) hHeld ?_
      rotate_left
      · (intro w hSw; (try dsimp only at hSw); go_simp <;> with_reducible rfl)
      try simp only [Act.put, List.setIfInBounds_toArray, List.set_cons_zero, List.set_cons_succ]
      -- 2: t72 := load 3 t71 : 3
      refine wpB_take (i := 2) (v := ?_) (get_of_drop rfl) (by kernel_rfl) (by kernel_rfl) (by kernel_rfl) (by kernel_rfl) (fun _ _ _ h => h) (Or.inl ⟨by rfl, ?_⟩) hHeld ?_
      rotate_left
      · (intro w hSw; (try dsimp only at hSw); go_simp <;> with_reducible rfl)
      try simp only [Act.put, List.setIfInBounds_toArray, List.set_cons_zero, List.set_cons_succ]
      -- 3: t73 := move t0 : 30
      refine wpB_take (i := 3) (v := ?_) (get_of_drop rfl) (by kernel_rfl) (by kernel_rfl) (by kernel_rfl) (by kernel_rfl) (fun _ _ _ h => h) (Or.inl ⟨by rfl, ?_⟩) hHeld ?_
      rotate_left
      · (intro w hSw; (try dsimp only at hSw); go_simp <;> with_reducible rfl)
      try simp only [Act.put, List.setIfInBounds_toArray, List.set_cons_zero, List.set_cons_succ]
      -- 4: t74 := CALL fn76(t73) : 3
      refine wpB_act (i := 4) (by kernel_rfl) (get_of_drop rfl) (fun K hK => ?_)
      go_simp
      refine (length_any (H.out.far hHeld) HNT.out).mono ?_
      rintro e' wy ⟨rfl, rfl⟩
      refine hK.out _ _ ?_ (fun hHeld2 => ?_)
      · first | assumption | exact Chg.alloc hHeld _
      clear hHeld hK K
      have hHeld := hHeld2
      clear hHeld2
      try simp only [Act.put, List.setIfInBounds_toArray, List.set_cons_zero, List.set_cons_succ]
      -- 5: t75 := build 41 [⟨0, #i64:7⟩, ⟨4, t74⟩] : 41
      refine wpB_take (i := 5) (v := ?_) (get_of_drop rfl) (by kernel_rfl) (by kernel_rfl) (by kernel_rfl) (by kernel_rfl) (fun _ _ _ h => h) (Or.inl ⟨by rfl, ?_⟩) hHeld ?_
      rotate_left
      · (intro w hSw; (try dsimp only at hSw); go_simp <;> with_reducible rfl)
      try simp only [Act.put, List.setIfInBounds_toArray, List.set_cons_zero, List.set_cons_succ]
      -- 6: t76 := CALL fn53(t70, t72, t75) : 0 (BARRIER)
      refine wpB_bar (i := 6) (by kernel_rfl) (get_of_drop rfl) (by kernel_rfl) (fun K hK => ?_)
      go_simp
      refine (send_any (m := msgOp 7 na) (R := fun _ => False) (H.out.far hHeld) (at_nil_ _ _ _) (by decide) (by intro e he; cases he) (numW_msgOp (by decide) (numW_of (by have := HNT.out; omega))) ⟨numW_of (by have := HST.out; show _ ≤ ra.s.view ∧ ra.s.view ≤ _; omega), numW_of (by have := HCF.out; show _ ≤ ra.id ∧ ra.id ≤ _; omega), HSW.out⟩ (by have := HOU.out; show ra.out.length ≤ _; omega)).mono ?_
      rintro e' wg ⟨O', rfl, hg, hog, kg⟩
      have HG := hid hg
      have HOG := hid hog
      have KG := hid kg
      clear hg hog kg
      refine hK.out _ _ (fun _ : World => True) ?_
      clear hHeld hK K
      have hHeld := trivial
      try simp only [Act.put, List.setIfInBounds_toArray, List.set_cons_zero, List.set_cons_succ]
      refine wpB_done (by kernel_rfl) ?_ _
      clear X_2 hHeld
      replace H := hid HG.out
      replace BX := hid (KG.out.blk BX.out (fun e => by rcases e with e | e; exact HPBN.out e; exact HOBN.out e))
      have HO1 := hid (show ∀ j, O'.ownBlock = some j → O.ownBlock = some j ∨ w.heap.size ≤ j from fun j hj => (HOG.out j hj).imp id (fun h => Nat.le_trans K.out.size h))
      replace K := hid (K.out.drew.trans KG.out (fun j hj _ => by rcases hj with h | h; exact .inl (.inl h); exact .inr h))
      replace BP := hid H.out.blk
      have P_8 : wg.cell? ⟨p, 8, none⟩ = some (.bool false) := by rw [← HCH.out]; exact (cellAt BP.out 8).trans rfl
      obtain ⟨r3, hr3⟩ : ∃ q_, q_ = sendR ra m.src (msgOp 7 (na : Int)) := ⟨_, rfl⟩
      rw [← hr3] at H BP
      have HR3 := hid hr3
      have LT3 := hid (show na = r3.s.log.length by rw [hr3]; exact LT.out)
      clear hr3
      go_wp2_with fail
      clear P_8
      have X_4 : ∀ wx, Chg (fun _ => False) wg wx → wx.cell? ⟨b, 4, none⟩ = some (.int .i64 m.op) := fun wx hx => (cellAt (hx.blk BX.out (fun h => h)) 4).trans rfl
      go_wp2_with fail
      refine wpB_start (fun wx : World => Chg (fun _ => False) wg wx) (by kernel_rfl) ?_
      have hHeld : (fun wx : World => Chg (fun _ => False) wg wx) _ := (Chg.refl (fun _ => False) wg).drew
      -- 0: t81 := fieldAddr 41 t3 4 : 0
      refine wpB_take (i := 0) (v := ?_) (get_of_drop rfl) (by kernel_rfl) (by kernel_rfl) (by kernel_rfl) (by kernel_rfl) (fun _ _ _ h => h) (Or.inl ⟨by rfl, ?_⟩) hHeld ?_
      rotate_left
      · (intro w hSw; (try dsimp only at hSw); go_simp <;> with_reducible rfl)
      try simp only [Act.put, List.setIfInBounds_toArray, List.set_cons_zero, List.set_cons_succ]
      -- 1: t82 := load 3 t81 : 3
      refine wpB_take (i := 1) (v := ?_) (get_of_drop rfl) (by kernel_rfl) (by kernel_rfl) (by kernel_rfl) (by kernel_rfl) (fun _ _ _ h => h) (Or.inl ⟨by rfl, ?_⟩) hHeld ?_
      rotate_left
      · (intro w hSw; (try dsimp only at hSw); go_simp <;> with_reducible rfl)
      try simp only [Act.put, List.setIfInBounds_toArray, List.set_cons_zero, List.set_cons_succ]
      -- 2: t83 := move t0 : 30
      refine wpB_take (i := 2) (v := ?_) (get_of_drop rfl) (by kernel_rfl) (by kernel_rfl) (by kernel_rfl) (by kernel_rfl) (fun _ _ _ h => h) (Or.inl ⟨by rfl, ?_⟩) hHeld ?_
      rotate_left
      · (intro w hSw; (try dsimp only at hSw); go_simp <;> with_reducible rfl)
      try simp only [Act.put, List.setIfInBounds_toArray, List.set_cons_zero, List.set_cons_succ]
      -- 3: t84 := CALL fn76(t83) : 3
      refine wpB_act (i := 3) (by kernel_rfl) (get_of_drop rfl) (fun K hK => ?_)
      go_simp
      refine (length_any (H.out.far hHeld) HNT.out).mono ?_
      rintro e' wy ⟨rfl, rfl⟩
      refine hK.out _ _ ?_ (fun hHeld2 => ?_)
      · first | assumption | exact Chg.alloc hHeld _
      clear hHeld hK K
      have hHeld := hHeld2
      clear hHeld2
      try simp only [Act.put, List.setIfInBounds_toArray, List.set_cons_zero, List.set_cons_succ]
      -- 4: t85 := binOp BinOp.gtr 3 t82 t84 3 : 4
      refine wpB_take (i := 4) (v := ?_) (get_of_drop rfl) (by kernel_rfl) (by kernel_rfl) (by kernel_rfl) (by kernel_rfl) (fun _ _ _ h => h) (Or.inl ⟨by rfl, ?_⟩) hHeld ?_
      rotate_left
      · (intro w hSw; (try dsimp only at hSw); go_simp <;> with_reducible rfl)
      try simp only [Act.put, List.setIfInBounds_toArray, List.set_cons_zero, List.set_cons_succ]
      -- 5: t4 := assign t85 : 4
      refine wpB_take (i := 5) (v := ?_) (get_of_drop rfl) (by kernel_rfl) (by kernel_rfl) (by kernel_rfl) (by kernel_rfl) (fun _ _ _ h => h) (Or.inl ⟨by rfl, ?_⟩) hHeld ?_
      rotate_left
      · (intro w hSw; (try dsimp only at hSw); go_simp <;> with_reducible rfl)
      try simp only [Act.put, List.setIfInBounds_toArray, List.set_cons_zero, List.set_cons_succ]
      refine wpB_done (by kernel_rfl) ?_ _
      clear X_4
      obtain ⟨w10, hdn⟩ : ∃ q_, q_ = wg.drew := ⟨_, rfl⟩
      rw [← hdn]
      replace K := hid (show Chg (fun j => M4 p b1 b2 b3 j ∨ O.ownBlock = some j) w w10 by rw [hdn]; exact K.out.drew)
      replace H := hid (show Rep w0 w10 p b1 b2 b3 X r3 A7 na c7 O' by rw [hdn]; exact H.out.far ((Chg.refl (fun _ => False) wg).drew))
      replace BX := hid (show w10.heap[b]? = some (.cells #[.int .i64 m.kind, .int .i64 m.view, .int .i64 m.src, .int .i64 m.dst, .int .i64 m.op, .int .i64 m.commit, .int .i64 m.normal, .slice B k d] 41 (0, 0)) by rw [hdn]; exact blk_drew BX.out)
      replace BP := hid H.out.blk
      clear hdn hHeld
      have U_5 : ∀ wx, Chg (fun _ => False) w10 wx → wx.cell? ⟨p, 5, none⟩ = some (.int .i64 r3.s.commit) := fun wx hx => (cellAt (hx.blk BP.out (fun h => h)) 5).trans rfl
      have P_5 : w10.cell? ⟨p, 5, none⟩ = some (.int .i64 r3.s.commit) := (cellAt BP.out 5).trans rfl
      have F_5 : w10.frozen? ⟨p, 5, none⟩ = false := freeAt BP.out 5
      have X_5 : ∀ wx, Chg (fun _ => False) w10 wx → wx.cell? ⟨b, 5, none⟩ = some (.int .i64 m.commit) := fun wx hx => (cellAt (hx.blk BX.out (fun h => h)) 5).trans rfl
      go_wp2_with fail
      refine wpB_start (fun wx : World => Chg (fun _ => False) w10 wx) (by kernel_rfl) ?_
      have hHeld : (fun wx : World => Chg (fun _ => False) w10 wx) _ := (Chg.refl (fun _ => False) w10).drew
      -- 0: t86 := move t0 : 30
      refine wpB_take (i := 0) (v := ?_) (get_of_drop rfl) (by kernel_rfl) (by kernel_rfl) (by kernel_rfl) (by kernel_rfl) (fun _ _ _ h => h) (Or.inl ⟨by rfl, ?_⟩) hHeld ?_
      rotate_left
      · (intro w hSw; (try dsimp only at hSw); go_simp <;> with_reducible rfl)
      try simp only [Act.put, List.setIfInBounds_toArray, List.set_cons_zero, List.set_cons_succ]
      -- 1: t87 := move t0 : 30
      refine wpB_take (i := 1) (v := ?_) (get_of_drop rfl) (by kernel_rfl) (by kernel_rfl) (by kernel_rfl) (by kernel_rfl) (fun _ _ _ h => h) (Or.inl ⟨by rfl, ?_⟩) hHeld ?_
      rotate_left
      · (intro w hSw; (try dsimp only at hSw); go_simp <;> with_reducible rfl)
      try simp only [Act.put, List.setIfInBounds_toArray, List.set_cons_zero, List.set_cons_succ]
      -- 2: t88 := nilCheck t87 : 0
      refine wpB_take (i := 2) (v := ?_) (get_of_drop rfl) (by kernel_rfl) (by kernel_rfl) (by kernel_rfl) (by kernel_rfl) (fun _ _ _ h => h) (Or.inl ⟨by rfl, ?_⟩) hHeld ?_
      rotate_left
      · (intro w hSw; (try dsimp only at hSw); go_simp <;> with_reducible rfl)
      try simp only [Act.put, List.setIfInBounds_toArray, List.set_cons_zero, List.set_cons_succ]
      -- 3: t89 := fieldAddr 100 t88 1 : 0
      refine wpB_take (i := 3) (v := ?_) (get_of_drop rfl) (by kernel_rfl) (by kernel_rfl) (by kernel_rfl) (by kernel_rfl) (fun _ _ _ h => h) (Or.inl ⟨by rfl, ?_⟩) hHeld ?_
      rotate_left
      · (intro w hSw; (try dsimp only at hSw); go_simp <;> with_reducible rfl)
      try simp only [Act.put, List.setIfInBounds_toArray, List.set_cons_zero, List.set_cons_succ]
      -- 4: t90 := fieldAddr 26 t89 2 : 0
      refine wpB_take (i := 4) (v := ?_) (get_of_drop rfl) (by kernel_rfl) (by kernel_rfl) (by kernel_rfl) (by kernel_rfl) (fun _ _ _ h => h) (Or.inl ⟨by rfl, ?_⟩) hHeld ?_
      rotate_left
      · (intro w hSw; (try dsimp only at hSw); go_simp <;> with_reducible rfl)
      try simp only [Act.put, List.setIfInBounds_toArray, List.set_cons_zero, List.set_cons_succ]
      -- 5: t91 := load 3 t90 : 3
      refine wpB_take (i := 5) (v := ?_) (get_of_drop rfl) (by kernel_rfl) (by kernel_rfl) (by kernel_rfl) (by kernel_rfl) (fun _ _ _ h => h) (Or.inl ⟨by rfl, ?_⟩) hHeld ?_
      rotate_left
      · (intro w hSw; (try dsimp only at hSw); go_simp <;> with_reducible rfl)
      try simp only [Act.put, List.setIfInBounds_toArray, List.set_cons_zero, List.set_cons_succ]
      -- 6: t92 := fieldAddr 41 t3 5 : 0
      refine wpB_take (i := 6) (v := ?_) (get_of_drop rfl) (by kernel_rfl) (by kernel_rfl) (by kernel_rfl) (by kernel_rfl) (fun _ _ _ h => h) (Or.inl ⟨by rfl, ?_⟩) hHeld ?_
      rotate_left
      · (intro w hSw; (try dsimp only at hSw); go_simp <;> with_reducible rfl)
      try simp only [Act.put, List.setIfInBounds_toArray, List.set_cons_zero, List.set_cons_succ]
      -- 7: t93 := load 3 t92 : 3
      refine wpB_take (i := 7) (v := ?_) (get_of_drop rfl) (by kernel_rfl) (by kernel_rfl) (by kernel_rfl) (by kernel_rfl) (fun _ _ _ h => h) (Or.inl ⟨by rfl, ?_⟩) hHeld ?_
      rotate_left
      · (intro w hSw; (try dsimp only at hSw); go_simp <;> with_reducible rfl)
      try simp only [Act.put, List.setIfInBounds_toArray, List.set_cons_zero, List.set_cons_succ]
      -- 8: t94 := move t0 : 30
      refine wpB_take (i := 8) (v := ?_) (get_of_drop rfl) (by kernel_rfl) (by kernel_rfl) (by kernel_rfl) (by kernel_rfl) (fun _ _ _ h => h) (Or.inl ⟨by rfl, ?_⟩) hHeld ?_
      rotate_left
      · (intro w hSw; (try dsimp only at hSw); go_simp <;> with_reducible rfl)
      try simp only [Act.put, List.setIfInBounds_toArray, List.set_cons_zero, List.set_cons_succ]
      -- 9: t95 := CALL fn76(t94) : 3
      refine wpB_act (i := 9) (by kernel_rfl) (get_of_drop rfl) (fun K hK => ?_)
      go_simp
      refine (length_any (H.out.far hHeld) HNT.out).mono ?_
      rintro e' wy ⟨rfl, rfl⟩
      refine hK.out _ _ ?_ (fun hHeld2 => ?_)
      · first | assumption | exact Chg.alloc hHeld _
      clear hHeld hK K
      have hHeld := hHeld2
      clear hHeld2
      try simp only [Act.put, List.setIfInBounds_toArray, List.set_cons_zero, List.set_cons_succ]
      -- 10: t96 := min(t93, t95) types [3, 3] : 3
      refine wpB_take (i := 10) (v := ?_) (get_of_drop rfl) (by kernel_rfl) (by kernel_rfl) (by kernel_rfl) (by kernel_rfl) (fun _ _ _ h => h) (Or.inl ⟨by rfl, ?_⟩) hHeld ?_
      rotate_left
      · (intro w hSw; (try dsimp only at hSw); go_simp <;> with_reducible rfl)
      try simp only [Act.put, List.setIfInBounds_toArray, List.set_cons_zero, List.set_cons_succ]
      -- 11: t97 := max(t91, t96) types [3, 3] : 3
      refine wpB_take (i := 11) (v := ?_) (get_of_drop rfl) (by kernel_rfl) (by kernel_rfl) (by kernel_rfl) (by kernel_rfl) (fun _ _ _ h => h) (Or.inl ⟨by rfl, ?_⟩) hHeld ?_
      rotate_left
      · (intro w hSw; (try dsimp only at hSw); go_simp <;> with_reducible rfl)
      try simp only [Act.put, List.setIfInBounds_toArray, List.set_cons_zero, List.set_cons_succ]
      -- 12: t98 := nilCheck t86 : 0
      refine wpB_take (i := 12) (v := ?_) (get_of_drop rfl) (by kernel_rfl) (by kernel_rfl) (by kernel_rfl) (by kernel_rfl) (fun _ _ _ h => h) (Or.inl ⟨by rfl, ?_⟩) hHeld ?_
      rotate_left
      · (intro w hSw; (try dsimp only at hSw); go_simp <;> with_reducible rfl)
      try simp only [Act.put, List.setIfInBounds_toArray, List.set_cons_zero, List.set_cons_succ]
      -- 13: t99 := fieldAddr 100 t98 1 : 0
      refine wpB_take (i := 13) (v := ?_) (get_of_drop rfl) (by kernel_rfl) (by kernel_rfl) (by kernel_rfl) (by kernel_rfl) (fun _ _ _ h => h) (Or.inl ⟨by rfl, ?_⟩) hHeld ?_
      rotate_left
      · (intro w hSw; (try dsimp only at hSw); go_simp <;> with_reducible rfl)
      try simp only [Act.put, List.setIfInBounds_toArray, List.set_cons_zero, List.set_cons_succ]
      -- 14: t100 := fieldAddr 26 t99 2 : 0
      refine wpB_take (i := 14) (v := ?_) (get_of_drop rfl) (by kernel_rfl) (by kernel_rfl) (by kernel_rfl) (by kernel_rfl) (fun _ _ _ h => h) (Or.inl ⟨by rfl, ?_⟩) hHeld ?_
      rotate_left
      · (intro w hSw; (try dsimp only at hSw); go_simp <;> with_reducible rfl)
      try simp only [Act.put, List.setIfInBounds_toArray, List.set_cons_zero, List.set_cons_succ]
      -- 15: t- := store 3 t100 t97 : 0 (BARRIER)
      refine wpB_bar (i := 15) (by kernel_rfl) (get_of_drop rfl) (by kernel_rfl) (fun K hK => ?_)
      go_simp
      refine hK.out _ _ (fun _ : World => True) ?_
      clear hHeld hK K
      have hHeld := trivial
      try simp only [Act.put, List.setIfInBounds_toArray, List.set_cons_zero, List.set_cons_succ]
      refine wpB_done (by kernel_rfl) ?_ _
      clear hHeld
      obtain ⟨q, hq⟩ : ∃ q_, q_ = mx r3.s.commit (mn m.commit (na : Int)) := ⟨_, rfl⟩
      rw [← hq]
      have HQ := hid (show q = max r3.s.commit (min m.commit (na : Int)) by rw [hq, mx_eq, mn_eq])
      obtain ⟨w11, hw11⟩ : ∃ q_, q_ = (w10.setCell ⟨p, 5, none⟩ (.int .i64 q)).drew := ⟨_, rfl⟩
      rw [← hw11]
      have K11 := hid (show Chg (fun k => k = p) w10 w11 by rw [hw11]; exact ((Chg.refl (fun k => k = p) w10).set (fun _ => rfl) _).drew)
      have HRS := hid (show raiseR r3 m.commit = { r3 with s := { r3.s with commit := q } } by unfold raiseR; rw [HQ.out, LT3.out])
      replace H := hid (show Rep w0 w11 p b1 b2 b3 X (raiseR r3 m.commit) A7 na c7 O' by rw [HRS.out]; exact H.out.put (r' := { r3 with s := { r3.s with commit := q } }) K11.out (by rw [hw11]; exact blk_drew (blk_set BP.out 5 _)) rfl rfl rfl rfl rfl)
      replace BX := hid (K11.out.blk BX.out HPBN.out)
      replace K := hid (K.out.trans K11.out (fun j hj _ => .inl (.inl hj)))
      clear hq hw11 U_5 P_5 F_5 X_5
      go_wp2_with fail
      go_end0
      have e1 : followR r m = raiseR r3 m.commit := by
        rw [HEQ2.out]
        unfold follow3R
        rw [if_pos (.inr (by rw [← LT.out]; exact HOP.out))]
        unfold follow4R
        rw [if_neg (show ¬ (sendR ra m.src (msgOp 7 (ra.s.log.length : Int))).ch = true from fun h => by have := HCH.out.symm.trans h; cases this), if_pos (show ((sendR ra m.src (msgOp 7 (ra.s.log.length : Int))).s.log.length : Int) < m.op from by show (ra.s.log.length : Int) < m.op; rw [← LT.out]; exact HOP.out), HR3.out, LT.out]
      rw [e1]
      exact ⟨A7, na, c7, O', rfl, H.out, HO1.out, K.out⟩
    · have HOP := hid hop
      have hop2 : m.op ≤ (na : Int) := by omega
      have hop3 : decide ((na : Int) < m.op) = false := by simp; omega
      have P_8 : w7.cell? ⟨p, 8, none⟩ = some (.bool false) := by rw [← HCH.out]; exact (cellAt BP.out 8).trans rfl
      go_wp2_with fail
      clear P_8
      have X_4 : ∀ wx, Chg (fun _ => False) w7 wx → wx.cell? ⟨b, 4, none⟩ = some (.int .i64 m.op) := fun wx hx => (cellAt (hx.blk BX.out (fun h => h)) 4).trans rfl
      go_wp2_with fail
      refine wpB_start (fun wx : World => Chg (fun _ => False) w7 wx) (by kernel_rfl) ?_
      have hHeld : (fun wx : World => Chg (fun _ => False) w7 wx) _ := (Chg.refl (fun _ => False) w7).drew
      -- 0: t81 := fieldAddr 41 t3 4 : 0
      refine wpB_take (i := 0) (v := ?_) (get_of_drop rfl) (by kernel_rfl) (by kernel_rfl) (by kernel_rfl) (by kernel_rfl) (fun _ _ _ h => h) (Or.inl ⟨by rfl, ?_⟩) hHeld ?_
      rotate_left
      · (intro w hSw; (try dsimp only at hSw); go_simp <;> with_reducible rfl)
      try simp only [Act.put, List.setIfInBounds_toArray, List.set_cons_zero, List.set_cons_succ]
      -- 1: t82 := load 3 t81 : 3
      refine wpB_take (i := 1) (v := ?_) (get_of_drop rfl) (by kernel_rfl) (by kernel_rfl) (by kernel_rfl) (by kernel_rfl) (fun _ _ _ h => h) (Or.inl ⟨by rfl, ?_⟩) hHeld ?_
      rotate_left
      · (intro w hSw; (try dsimp only at hSw); go_simp <;> with_reducible rfl)
      try simp only [Act.put, List.setIfInBounds_toArray, List.set_cons_zero, List.set_cons_succ]
      -- 2: t83 := move t0 : 30
      refine wpB_take (i := 2) (v := ?_) (get_of_drop rfl) (by kernel_rfl) (by kernel_rfl) (by kernel_rfl) (by kernel_rfl) (fun _ _ _ h => h) (Or.inl ⟨by rfl, ?_⟩) hHeld ?_
      rotate_left
      · (intro w hSw; (try dsimp only at hSw); go_simp <;> with_reducible rfl)
      try simp only [Act.put, List.setIfInBounds_toArray, List.set_cons_zero, List.set_cons_succ]
      -- 3: t84 := CALL fn76(t83) : 3
      refine wpB_act (i := 3) (by kernel_rfl) (get_of_drop rfl) (fun K hK => ?_)
      go_simp
      refine (length_any (H.out.far hHeld) HNT.out).mono ?_
      rintro e' wy ⟨rfl, rfl⟩
      refine hK.out _ _ ?_ (fun hHeld2 => ?_)
      · first | assumption | exact Chg.alloc hHeld _
      clear hHeld hK K
      have hHeld := hHeld2
      clear hHeld2
      try simp only [Act.put, List.setIfInBounds_toArray, List.set_cons_zero, List.set_cons_succ]
      -- 4: t85 := binOp BinOp.gtr 3 t82 t84 3 : 4
      refine wpB_take (i := 4) (v := ?_) (get_of_drop rfl) (by kernel_rfl) (by kernel_rfl) (by kernel_rfl) (by kernel_rfl) (fun _ _ _ h => h) (Or.inl ⟨by rfl, ?_⟩) hHeld ?_
      rotate_left
      · (intro w hSw; (try dsimp only at hSw); go_simp <;> with_reducible rfl)
      try simp only [Act.put, List.setIfInBounds_toArray, List.set_cons_zero, List.set_cons_succ]
      -- 5: t4 := assign t85 : 4
      refine wpB_take (i := 5) (v := ?_) (get_of_drop rfl) (by kernel_rfl) (by kernel_rfl) (by kernel_rfl) (by kernel_rfl) (fun _ _ _ h => h) (Or.inl ⟨by rfl, ?_⟩) hHeld ?_
      rotate_left
      · (intro w hSw; (try dsimp only at hSw); go_simp <;> with_reducible rfl)
      try simp only [Act.put, List.setIfInBounds_toArray, List.set_cons_zero, List.set_cons_succ]
      refine wpB_done (by kernel_rfl) ?_ _
      clear X_4
      obtain ⟨w10, hdn⟩ : ∃ q_, q_ = w7.drew := ⟨_, rfl⟩
      rw [← hdn]
      replace K := hid (show Chg (fun j => M4 p b1 b2 b3 j ∨ O.ownBlock = some j) w w10 by rw [hdn]; exact K.out.drew)
      replace H := hid (show Rep w0 w10 p b1 b2 b3 X ra A7 na c7 O by rw [hdn]; exact H.out.far ((Chg.refl (fun _ => False) w7).drew))
      replace BX := hid (show w10.heap[b]? = some (.cells #[.int .i64 m.kind, .int .i64 m.view, .int .i64 m.src, .int .i64 m.dst, .int .i64 m.op, .int .i64 m.commit, .int .i64 m.normal, .slice B k d] 41 (0, 0)) by rw [hdn]; exact blk_drew BX.out)
      replace BP := hid H.out.blk
      clear hdn hHeld
      have U_5 : ∀ wx, Chg (fun _ => False) w10 wx → wx.cell? ⟨p, 5, none⟩ = some (.int .i64 ra.s.commit) := fun wx hx => (cellAt (hx.blk BP.out (fun h => h)) 5).trans rfl
      have P_5 : w10.cell? ⟨p, 5, none⟩ = some (.int .i64 ra.s.commit) := (cellAt BP.out 5).trans rfl
      have F_5 : w10.frozen? ⟨p, 5, none⟩ = false := freeAt BP.out 5
      have X_5 : ∀ wx, Chg (fun _ => False) w10 wx → wx.cell? ⟨b, 5, none⟩ = some (.int .i64 m.commit) := fun wx hx => (cellAt (hx.blk BX.out (fun h => h)) 5).trans rfl
      go_wp2_with fail
      refine wpB_start (fun wx : World => Chg (fun _ => False) w10 wx) (by kernel_rfl) ?_
      have hHeld : (fun wx : World => Chg (fun _ => False) w10 wx) _ := (Chg.refl (fun _ => False) w10).drew
      -- 0: t86 := move t0 : 30
      refine wpB_take (i := 0) (v := ?_) (get_of_drop rfl) (by kernel_rfl) (by kernel_rfl) (by kernel_rfl) (by kernel_rfl) (fun _ _ _ h => h) (Or.inl ⟨by rfl, ?_⟩) hHeld ?_
      rotate_left
      · (intro w hSw; (try dsimp only at hSw); go_simp <;> with_reducible rfl)
      try simp only [Act.put, List.setIfInBounds_toArray, List.set_cons_zero, List.set_cons_succ]
      -- 1: t87 := move t0 : 30
      refine wpB_take (i := 1) (v := ?_) (get_of_drop rfl) (by kernel_rfl) (by kernel_rfl) (by kernel_rfl) (by kernel_rfl) (fun _ _ _ h => h) (Or.inl ⟨by rfl, ?_⟩) hHeld ?_
      rotate_left
      · (intro w hSw; (try dsimp only at hSw); go_simp <;> with_reducible rfl)
      try simp only [Act.put, List.setIfInBounds_toArray, List.set_cons_zero, List.set_cons_succ]
      -- 2: t88 := nilCheck t87 : 0
      refine wpB_take (i := 2) (v := ?_) (get_of_drop rfl) (by kernel_rfl) (by kernel_rfl) (by kernel_rfl) (by kernel_rfl) (fun _ _ _ h => h) (Or.inl ⟨by rfl, ?_⟩) hHeld ?_
      rotate_left
      · (intro w hSw; (try dsimp only at hSw); go_simp <;> with_reducible rfl)
      try simp only [Act.put, List.setIfInBounds_toArray, List.set_cons_zero, List.set_cons_succ]
      -- 3: t89 := fieldAddr 100 t88 1 : 0
      refine wpB_take (i := 3) (v := ?_) (get_of_drop rfl) (by kernel_rfl) (by kernel_rfl) (by kernel_rfl) (by kernel_rfl) (fun _ _ _ h => h) (Or.inl ⟨by rfl, ?_⟩) hHeld ?_
      rotate_left
      · (intro w hSw; (try dsimp only at hSw); go_simp <;> with_reducible rfl)
      try simp only [Act.put, List.setIfInBounds_toArray, List.set_cons_zero, List.set_cons_succ]
      -- 4: t90 := fieldAddr 26 t89 2 : 0
      refine wpB_take (i := 4) (v := ?_) (get_of_drop rfl) (by kernel_rfl) (by kernel_rfl) (by kernel_rfl) (by kernel_rfl) (fun _ _ _ h => h) (Or.inl ⟨by rfl, ?_⟩) hHeld ?_
      rotate_left
      · (intro w hSw; (try dsimp only at hSw); go_simp <;> with_reducible rfl)
      try simp only [Act.put, List.setIfInBounds_toArray, List.set_cons_zero, List.set_cons_succ]
      -- 5: t91 := load 3 t90 : 3
      refine wpB_take (i := 5) (v := ?_) (get_of_drop rfl) (by kernel_rfl) (by kernel_rfl) (by kernel_rfl) (by kernel_rfl) (fun _ _ _ h => h) (Or.inl ⟨by rfl, ?_⟩) hHeld ?_
      rotate_left
      · (intro w hSw; (try dsimp only at hSw); go_simp <;> with_reducible rfl)
      try simp only [Act.put, List.setIfInBounds_toArray, List.set_cons_zero, List.set_cons_succ]
      -- 6: t92 := fieldAddr 41 t3 5 : 0
      refine wpB_take (i := 6) (v := ?_) (get_of_drop rfl) (by kernel_rfl) (by kernel_rfl) (by kernel_rfl) (by kernel_rfl) (fun _ _ _ h => h) (Or.inl ⟨by rfl, ?_⟩) hHeld ?_
      rotate_left
      · (intro w hSw; (try dsimp only at hSw); go_simp <;> with_reducible rfl)
      try simp only [Act.put, List.setIfInBounds_toArray, List.set_cons_zero, List.set_cons_succ]
      -- 7: t93 := load 3 t92 : 3
      refine wpB_take (i := 7) (v := ?_) (get_of_drop rfl) (by kernel_rfl) (by kernel_rfl) (by kernel_rfl) (by kernel_rfl) (fun _ _ _ h => h) (Or.inl ⟨by rfl, ?_⟩) hHeld ?_
      rotate_left
      · (intro w hSw; (try dsimp only at hSw); go_simp <;> with_reducible rfl)
      try simp only [Act.put, List.setIfInBounds_toArray, List.set_cons_zero, List.set_cons_succ]
      -- 8: t94 := move t0 : 30
      refine wpB_take (i := 8) (v := ?_) (get_of_drop rfl) (by kernel_rfl) (by kernel_rfl) (by kernel_rfl) (by kernel_rfl) (fun _ _ _ h => h) (Or.inl ⟨by rfl, ?_⟩) hHeld ?_
      rotate_left
      · (intro w hSw; (try dsimp only at hSw); go_simp <;> with_reducible rfl)
      try simp only [Act.put, List.setIfInBounds_toArray, List.set_cons_zero, List.set_cons_succ]
      -- 9: t95 := CALL fn76(t94) : 3
      refine wpB_act (i := 9) (by kernel_rfl) (get_of_drop rfl) (fun K hK => ?_)
      go_simp
      refine (length_any (H.out.far hHeld) HNT.out).mono ?_
      rintro e' wy ⟨rfl, rfl⟩
      refine hK.out _ _ ?_ (fun hHeld2 => ?_)
      · first | assumption | exact Chg.alloc hHeld _
      clear hHeld hK K
      have hHeld := hHeld2
      clear hHeld2
      try simp only [Act.put, List.setIfInBounds_toArray, List.set_cons_zero, List.set_cons_succ]
      -- 10: t96 := min(t93, t95) types [3, 3] : 3
      refine wpB_take (i := 10) (v := ?_) (get_of_drop rfl) (by kernel_rfl) (by kernel_rfl) (by kernel_rfl) (by kernel_rfl) (fun _ _ _ h => h) (Or.inl ⟨by rfl, ?_⟩) hHeld ?_
      rotate_left
      · (intro w hSw; (try dsimp only at hSw); go_simp <;> with_reducible rfl)
      try simp only [Act.put, List.setIfInBounds_toArray, List.set_cons_zero, List.set_cons_succ]
      -- 11: t97 := max(t91, t96) types [3, 3] : 3
      refine wpB_take (i := 11) (v := ?_) (get_of_drop rfl) (by kernel_rfl) (by kernel_rfl) (by kernel_rfl) (by kernel_rfl) (fun _ _ _ h => h) (Or.inl ⟨by rfl, ?_⟩) hHeld ?_
      rotate_left
      · (intro w hSw; (try dsimp only at hSw); go_simp <;> with_reducible rfl)
      try simp only [Act.put, List.setIfInBounds_toArray, List.set_cons_zero, List.set_cons_succ]
      -- 12: t98 := nilCheck t86 : 0
      refine wpB_take (i := 12) (v := ?_) (get_of_drop rfl) (by kernel_rfl) (by kernel_rfl) (by kernel_rfl) (by kernel_rfl) (fun _ _ _ h => h) (Or.inl ⟨by rfl, ?_⟩) hHeld ?_
      rotate_left
      · (intro w hSw; (try dsimp only at hSw); go_simp <;> with_reducible rfl)
      try simp only [Act.put, List.setIfInBounds_toArray, List.set_cons_zero, List.set_cons_succ]
      -- 13: t99 := fieldAddr 100 t98 1 : 0
      refine wpB_take (i := 13) (v := ?_) (get_of_drop rfl) (by kernel_rfl) (by kernel_rfl) (by kernel_rfl) (by kernel_rfl) (fun _ _ _ h => h) (Or.inl ⟨by rfl, ?_⟩) hHeld ?_
      rotate_left
      · (intro w hSw; (try dsimp only at hSw); go_simp <;> with_reducible rfl)
      try simp only [Act.put, List.setIfInBounds_toArray, List.set_cons_zero, List.set_cons_succ]
      -- 14: t100 := fieldAddr 26 t99 2 : 0
      refine wpB_take (i := 14) (v := ?_) (get_of_drop rfl) (by kernel_rfl) (by kernel_rfl) (by kernel_rfl) (by kernel_rfl) (fun _ _ _ h => h) (Or.inl ⟨by rfl, ?_⟩) hHeld ?_
      rotate_left
      · (intro w hSw; (try dsimp only at hSw); go_simp <;> with_reducible rfl)
      try simp only [Act.put, List.setIfInBounds_toArray, List.set_cons_zero, List.set_cons_succ]
      -- 15: t- := store 3 t100 t97 : 0 (BARRIER)
      refine wpB_bar (i := 15) (by kernel_rfl) (get_of_drop rfl) (by kernel_rfl) (fun K hK => ?_)
      go_simp
      refine hK.out _ _ (fun _ : World => True) ?_
      clear hHeld hK K
      have hHeld := trivial
      try simp only [Act.put, List.setIfInBounds_toArray, List.set_cons_zero, List.set_cons_succ]
      refine wpB_done (by kernel_rfl) ?_ _
      clear hHeld
      obtain ⟨q, hq⟩ : ∃ q_, q_ = mx ra.s.commit (mn m.commit (na : Int)) := ⟨_, rfl⟩
      rw [← hq]
      have HQ := hid (show q = max ra.s.commit (min m.commit (na : Int)) by rw [hq, mx_eq, mn_eq])
      obtain ⟨w11, hw11⟩ : ∃ q_, q_ = (w10.setCell ⟨p, 5, none⟩ (.int .i64 q)).drew := ⟨_, rfl⟩
      rw [← hw11]
      have K11 := hid (show Chg (fun k => k = p) w10 w11 by rw [hw11]; exact ((Chg.refl (fun k => k = p) w10).set (fun _ => rfl) _).drew)
      have HRS := hid (show raiseR ra m.commit = { ra with s := { ra.s with commit := q } } by unfold raiseR; rw [HQ.out, LT.out])
      replace H := hid (show Rep w0 w11 p b1 b2 b3 X (raiseR ra m.commit) A7 na c7 O by rw [HRS.out]; exact H.out.put (r' := { ra with s := { ra.s with commit := q } }) K11.out (by rw [hw11]; exact blk_drew (blk_set BP.out 5 _)) rfl rfl rfl rfl rfl)
      replace BX := hid (K11.out.blk BX.out HPBN.out)
      replace K := hid (K.out.trans K11.out (fun j hj _ => .inl (.inl hj)))
      clear hq hw11 U_5 P_5 F_5 X_5
      go_wp2_with fail
      obtain ⟨r3, hr3⟩ : ∃ q_, q_ = raiseR ra m.commit := ⟨_, rfl⟩
      rw [← hr3] at H
      have HR3 := hid hr3
      have HV3 := hid (show r3.s.view = ra.s.view ∧ r3.id = ra.id ∧ r3.out = ra.out by rw [hr3]; exact ⟨rfl, rfl, rfl⟩)
      clear hr3
      have X_2 : ∀ wx, Chg (fun _ => False) w11 wx → wx.cell? ⟨b, 2, none⟩ = some (.int .i64 m.src) := fun wx hx => (cellAt (hx.blk BX.out (fun h => h)) 2).trans rfl
      refine wpB_start (fun wx : World => Chg (fun _ => False) w11 wx) (by kernel_rfl) ?_
      have hHeld : (fun wx : World => Chg (fun _ => False) w11 wx) _ := (Chg.refl (fun _ => False) w11).drew
      -- 0: t103 := move t0 : 30
      refine wpB_take (i := 0) (v := ?_) (get_of_drop rfl) (by kernel_rfl) (by kernel_rfl) (by kernel_rfl) (by kernel_rfl) (fun _ _ _ h => h) (Or.inl ⟨by rfl, ?_⟩) hHeld ?_
      rotate_left
      · (intro w hSw; (try dsimp only at hSw); go_simp <;> with_reducible rfl)
      try simp only [Act.put, List.setIfInBounds_toArray, List.set_cons_zero, List.set_cons_succ]
      -- 1: t104 := fieldAddr 41 t3 2 : 0
      refine wpB_take (i := 1) (v := ?_) (get_of_drop rfl) (by kernel_rfl) (by kernel_rfl) (by kernel_rfl) (by kernel_rfl) (fun _ _ _ h => h) (Or.inl ⟨by rfl, ?_⟩) hHeld ?_
      rotate_left
      · (intro w hSw; (try dsimp only at hSw); go_simp <;> with_reducible rfl)
      try simp only [Act.put, List.setIfInBounds_toArray, List.set_cons_zero, List.set_cons_succ]
      -- 2: t105 := load 3 t104 : 3
      refine wpB_take (i := 2) (v := ?_) (get_of_drop rfl) (by kernel_rfl) (by kernel_rfl) (by kernel_rfl) (by kernel_rfl) (fun _ _ _ h => h) (Or.inl ⟨by rfl, ?_⟩) hHeld ?_
      rotate_left
      · (intro w hSw; (try dsimp only at hSw); go_simp <;> with_reducible rfl)
      try simp only [Act.put, List.setIfInBounds_toArray, List.set_cons_zero, List.set_cons_succ]
      -- 3: t106 := move t0 : 30
      refine wpB_take (i := 3) (v := ?_) (get_of_drop rfl) (by kernel_rfl) (by kernel_rfl) (by kernel_rfl) (by kernel_rfl) (fun _ _ _ h => h) (Or.inl ⟨by rfl, ?_⟩) hHeld ?_
      rotate_left
      · (intro w hSw; (try dsimp only at hSw); go_simp <;> with_reducible rfl)
      try simp only [Act.put, List.setIfInBounds_toArray, List.set_cons_zero, List.set_cons_succ]
      -- 4: t107 := CALL fn76(t106) : 3
      refine wpB_act (i := 4) (by kernel_rfl) (get_of_drop rfl) (fun K hK => ?_)
      go_simp
      refine (length_any (H.out.far hHeld) HNT.out).mono ?_
      rintro e' wy ⟨rfl, rfl⟩
      refine hK.out _ _ ?_ (fun hHeld2 => ?_)
      · first | assumption | exact Chg.alloc hHeld _
      clear hHeld hK K
      have hHeld := hHeld2
      clear hHeld2
      try simp only [Act.put, List.setIfInBounds_toArray, List.set_cons_zero, List.set_cons_succ]
      -- 5: t108 := build 41 [⟨0, #i64:2⟩, ⟨4, t107⟩] : 41
      refine wpB_take (i := 5) (v := ?_) (get_of_drop rfl) (by kernel_rfl) (by kernel_rfl) (by kernel_rfl) (by kernel_rfl) (fun _ _ _ h => h) (Or.inl ⟨by rfl, ?_⟩) hHeld ?_
      rotate_left
      · (intro w hSw; (try dsimp only at hSw); go_simp <;> with_reducible rfl)
      try simp only [Act.put, List.setIfInBounds_toArray, List.set_cons_zero, List.set_cons_succ]
      -- 6: t109 := CALL fn53(t103, t105, t108) : 0 (BARRIER)
      refine wpB_bar (i := 6) (by kernel_rfl) (get_of_drop rfl) (by kernel_rfl) (fun K hK => ?_)
      go_simp
      refine (send_any (m := msgOp 2 na) (R := fun _ => False) (H.out.far hHeld) (at_nil_ _ _ _) (by decide) (by intro e he; cases he) (numW_msgOp (by decide) (numW_of (by have := HNT.out; omega))) ⟨numW_of (by rw [HV3.out.1]; have := HST.out; show _ ≤ ra.s.view ∧ ra.s.view ≤ _; omega), numW_of (by rw [HV3.out.2.1]; have := HCF.out; show _ ≤ ra.id ∧ ra.id ≤ _; omega), HSW.out⟩ (by rw [HV3.out.2.2]; have := HOU.out; show ra.out.length ≤ _; omega)).mono ?_
      rintro e' wg ⟨O', rfl, hg, hog, kg⟩
      have HG := hid hg
      have HOG := hid hog
      have KG := hid kg
      clear hg hog kg
      refine hK.out _ _ (fun _ : World => True) ?_
      clear hHeld hK K
      have hHeld := trivial
      try simp only [Act.put, List.setIfInBounds_toArray, List.set_cons_zero, List.set_cons_succ]
      refine wpB_done (by kernel_rfl) ?_ _
      clear X_2 hHeld
      go_wp2_with fail
      go_end0
      have e1 : followR r m = sendR r3 m.src (msgOp 2 (na : Int)) := by
        rw [HEQ2.out]
        unfold follow3R
        rw [if_neg (fun h => by rcases h with h | h; have := HCH.out.symm.trans h; cases this; rw [← LT.out] at h; have := HOP.out; omega)]
        unfold follow4R
        rw [if_neg (fun h => by have := HCH.out.symm.trans h; cases this), if_neg (by rw [← LT.out]; have := HOP.out; omega), HR3.out, LT.out]
      rw [e1]
      refine ⟨A7, na, c7, O', rfl, HG.out, fun j hj => (HOG.out j hj).imp id (fun h => Nat.le_trans K.out.size h), K.out.drew.trans (KG.out) (fun j hj hl => ?_)⟩
      rcases hj with h | h
      · exact .inl (.inl h)
      · exact .inr h
end Go.Proofs.Ytaldoajdhbndhaa.Pa
