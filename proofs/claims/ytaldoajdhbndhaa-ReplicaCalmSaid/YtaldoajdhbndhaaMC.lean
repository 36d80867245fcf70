/- Texts of this claim, one behind the other: RepO, RepQ, RepR, RepS, RepT. -/
import Derived.Test.YtaldoajdhbndhaaMB

/- ack. -/

namespace Go.Proofs.Ytaldoajdhbndhaa.Pa

set_option linter.unusedVariables false

set_option linter.unusedSimpArgs false

open Go.RowKit Go.Proofs.Ytaldoajdhbndhaa.C

attribute [local go_sem] max2_int min2_int max_two min_two

theorem zero_int_run (w : World) : (zeroValue 3).run Try.prog w = .ok (.int .i64 0) w := by first | exact zero_int w | kernel_rfl
theorem perm_map_pull {α β : Type} {f : α → β} {m m' : List β} (h : m.Perm m') : ∀ x : List α, m' = x.map f → ∃ l' : List α, m = l'.map f ∧ l'.Perm x := by
  induction h with
  | nil => intro x hx; cases x with
    | nil => exact ⟨[], rfl, .nil⟩
    | cons y ys => cases hx
  | cons a h ih => intro x hx; cases x with
    | nil => cases hx
    | cons y ys =>
      rw [List.map_cons] at hx
      injection hx with e1 e2
      obtain ⟨l', h1, h2⟩ := ih ys e2
      exact ⟨y :: l', by rw [List.map_cons, e1, h1], h2.cons y⟩
  | swap a b l => intro x hx; cases x with
    | nil => cases hx
    | cons y ys => cases ys with
      | nil => simp at hx
      | cons z zs =>
        simp only [List.map_cons, List.cons.injEq] at hx
        exact ⟨z :: y :: zs, by simp only [List.map_cons]; rw [hx.1, hx.2.1, hx.2.2], .swap y z zs⟩
  | trans h1 h2 ih1 ih2 =>
    intro x hx
    obtain ⟨l2, q1, q2⟩ := ih2 x hx
    obtain ⟨l1, q3, q4⟩ := ih1 l2 q1
    exact ⟨l1, q3, q4.trans q2⟩
theorem perm_map_cons {α β : Type} {f : α → β} {l : List α} {b : β} {m : List β} (h : (l.map f).Perm (b :: m)) : ∃ a, b = f a ∧ ∃ l' : List α, m = l'.map f ∧ l.Perm (a :: l') := by
  obtain ⟨l', h1, h2⟩ := perm_map_pull h.symm l rfl
  cases l' with
  | nil => cases h1
  | cons a l' =>
    rw [List.map_cons] at h1
    injection h1 with h1 h3
    exact ⟨a, h1, l', h3, h2.symm⟩
set_option maxHeartbeats 4000000 in
set_option maxRecDepth 100000 in
theorem ack_any {w0 w : World} {p b1 b2 b3 : Nat} {X : Nat → Prop} {r : Rp} {A : Option Addr} {n c : Nat} {O : Value} (h : Rep w0 w p b1 b2 b3 X r A n c O) {m : Msg} {B : Option Addr} {k d : Nat} (hok : RpOk r) (hmr : msgR m = true) (hl : r.acks.length ≤ 1000) :
    Calls Try.prog 50 #[.pointer (some ⟨p, 0, none⟩), .agg #[.int .i64 m.kind, .int .i64 m.view, .int .i64 m.src, .int .i64 m.dst, .int .i64 m.op, .int .i64 m.commit, .int .i64 m.normal, .slice B k d]] w (RepAt w0 w p b1 b2 b3 X (ackR r m) A n c O) := by
  obtain ⟨w1, hw1⟩ : ∃ q_, q_ = (w.alloc (.cells #[.int .i64 m.kind, .int .i64 m.view, .int .i64 m.src, .int .i64 m.dst, .int .i64 m.op, .int .i64 m.commit, .int .i64 m.normal, .slice B k d] 41)) := ⟨_, rfl⟩
  have C1 := hid (show Chg (fun _ => False) w w1 by rw [hw1]; exact (Chg.refl _ w).alloc _)
  have BX := hid (show w1.heap[w.heap.size]? = some (.cells #[.int .i64 m.kind, .int .i64 m.view, .int .i64 m.src, .int .i64 m.dst, .int .i64 m.op, .int .i64 m.commit, .int .i64 m.normal, .slice B k d] 41 (0, 0)) by
    rw [hw1]
    have := blk_new w (.cells #[.int .i64 m.kind, .int .i64 m.view, .int .i64 m.src, .int .i64 m.dst, .int .i64 m.op, .int .i64 m.commit, .int .i64 m.normal, .slice B k d] 41)
    simpa using this)
  have SZ := hid (show w1.heap.size = w.heap.size + 1 by rw [hw1]; simp)
  have H1 := hid (h.far C1.out)
  obtain ⟨b, hb⟩ : ∃ q_, q_ = w.heap.size := ⟨_, rfl⟩
  have HBb := hid hb
  replace BX := hid (show w1.heap[b]? = some (.cells #[.int .i64 m.kind, .int .i64 m.view, .int .i64 m.src, .int .i64 m.dst, .int .i64 m.op, .int .i64 m.commit, .int .i64 m.normal, .slice B k d] 41 (0, 0)) by rw [hb]; exact BX.out)
  have HSZ := hid (show w1.heap.size = b + 1 by rw [hb]; exact SZ.out)
  have HPB := hid (show p < b by rw [hb]; exact lt_of_blk h.blk)
  have HW0 := hid (show w0.heap.size ≤ b by rw [hb]; exact h.sz)
  have HOK := hid hok
  have HMR := hid hmr
  have HAL := hid hl
  have L1 := hid h.log.1
  have hpb : ¬ b = p := by have := HPB.out; omega
  have BP := hid H1.out.blk
  have HN := hid (show n ≤ 64 by have h1 := (stR_iff.1 hok.st).1.2.2.2.2.1; have h2 := h.log.1; omega)
  clear h hok hmr hl
  go_enter Try.func50, Try.ntmps50
  go_wp2_with fail
  rw [← hw1, ← hb]
  clear hw1 hb SZ
  have U_3 : ∀ wx, Chg (fun _ => False) w1 wx → wx.cell? ⟨p, 3, none⟩ = some (.int .i64 r.s.view) := fun wx hx => (cellAt (hx.blk BP.out (fun h => h)) 3).trans rfl
  have X_1 : ∀ wx, Chg (fun _ => False) w1 wx → wx.cell? ⟨b, 1, none⟩ = some (.int .i64 m.view) := fun wx hx => (cellAt (hx.blk BX.out (fun h => h)) 1).trans rfl
  by_cases hv : m.view = r.s.view
  case neg =>
    have hv2 : (m.view != r.s.view) = true := by simp [hv]
    have HV := hid hv
    clear hv
    refine wpB_start (fun wx : World => Chg (fun _ => False) w1 wx) (by kernel_rfl) ?_
    have hHeld : (fun wx : World => Chg (fun _ => False) w1 wx) _ := (Chg.refl (fun _ => False) w1).drew
    -- 0: t8 := fieldAddr 41 t3 1 : 0
    refine wpB_take (i := 0) (v := ?_) (get_of_drop rfl) (by kernel_rfl) (by kernel_rfl) (by kernel_rfl) (by kernel_rfl) (fun _ _ _ h => h) (Or.inl ⟨by rfl, ?_⟩) hHeld ?_
    rotate_left
    · (intro w hSw; (try dsimp only at hSw); go_simp <;> with_reducible rfl)
    try simp only [Act.put, List.setIfInBounds_toArray, List.set_cons_zero, List.set_cons_succ]
    -- 1: t9 := load 3 t8 : 3
    refine wpB_take (i := 1) (v := ?_) (get_of_drop rfl) (by kernel_rfl) (by kernel_rfl) (by kernel_rfl) (by kernel_rfl) (fun _ _ _ h => h) (Or.inl ⟨by rfl, ?_⟩) hHeld ?_
    rotate_left
    · (intro w hSw; (try dsimp only at hSw); go_simp <;> with_reducible rfl)
    try simp only [Act.put, List.setIfInBounds_toArray, List.set_cons_zero, List.set_cons_succ]
    -- 2: t10 := move t0 : 30
    refine wpB_take (i := 2) (v := ?_) (get_of_drop rfl) (by kernel_rfl) (by kernel_rfl) (by kernel_rfl) (by kernel_rfl) (fun _ _ _ h => h) (Or.inl ⟨by rfl, ?_⟩) hHeld ?_
    rotate_left
    · (intro w hSw; (try dsimp only at hSw); go_simp <;> with_reducible rfl)
    try simp only [Act.put, List.setIfInBounds_toArray, List.set_cons_zero, List.set_cons_succ]
    -- 3: t11 := nilCheck t10 : 0
    refine wpB_take (i := 3) (v := ?_) (get_of_drop rfl) (by kernel_rfl) (by kernel_rfl) (by kernel_rfl) (by kernel_rfl) (fun _ _ _ h => h) (Or.inl ⟨by rfl, ?_⟩) hHeld ?_
    rotate_left
    · (intro w hSw; (try dsimp only at hSw); go_simp <;> with_reducible rfl)
    try simp only [Act.put, List.setIfInBounds_toArray, List.set_cons_zero, List.set_cons_succ]
    -- 4: t12 := fieldAddr 100 t11 1 : 0
    refine wpB_take (i := 4) (v := ?_) (get_of_drop rfl) (by kernel_rfl) (by kernel_rfl) (by kernel_rfl) (by kernel_rfl) (fun _ _ _ h => h) (Or.inl ⟨by rfl, ?_⟩) hHeld ?_
    rotate_left
    · (intro w hSw; (try dsimp only at hSw); go_simp <;> with_reducible rfl)
    try simp only [Act.put, List.setIfInBounds_toArray, List.set_cons_zero, List.set_cons_succ]
    -- 5: t13 := fieldAddr 26 t12 0 : 0
    refine wpB_take (i := 5) (v := ?_) (get_of_drop rfl) (by kernel_rfl) (by kernel_rfl) (by kernel_rfl) (by kernel_rfl) (fun _ _ _ h => h) (Or.inl ⟨by rfl, ?_⟩) hHeld ?_
    rotate_left
    · (intro w hSw; (try dsimp only at hSw); go_simp <;> with_reducible rfl)
    try simp only [Act.put, List.setIfInBounds_toArray, List.set_cons_zero, List.set_cons_succ]
    -- 6: t14 := load 3 t13 : 3
    refine wpB_take (i := 6) (v := ?_) (get_of_drop rfl) (by kernel_rfl) (by kernel_rfl) (by kernel_rfl) (by kernel_rfl) (fun _ _ _ h => h) (Or.inl ⟨by rfl, ?_⟩) hHeld ?_
    rotate_left
    · (intro w hSw; (try dsimp only at hSw); go_simp <;> with_reducible rfl)
    try simp only [Act.put, List.setIfInBounds_toArray, List.set_cons_zero, List.set_cons_succ]
    -- 7: t15 := binOp BinOp.neq 3 t9 t14 3 : 4
    refine wpB_take (i := 7) (v := ?_) (get_of_drop rfl) (by kernel_rfl) (by kernel_rfl) (by kernel_rfl) (by kernel_rfl) (fun _ _ _ h => h) (Or.inl ⟨by rfl, ?_⟩) hHeld ?_
    rotate_left
    · (intro w hSw; (try dsimp only at hSw); go_simp <;> with_reducible rfl)
    try simp only [Act.put, List.setIfInBounds_toArray, List.set_cons_zero, List.set_cons_succ]
    -- 8: t16 := move t15 : 4
    refine wpB_take (i := 8) (v := ?_) (get_of_drop rfl) (by kernel_rfl) (by kernel_rfl) (by kernel_rfl) (by kernel_rfl) (fun _ _ _ h => h) (Or.inl ⟨by rfl, ?_⟩) hHeld ?_
    rotate_left
    · (intro w hSw; (try dsimp only at hSw); go_simp <;> with_reducible rfl)
    try simp only [Act.put, List.setIfInBounds_toArray, List.set_cons_zero, List.set_cons_succ]
    -- 9: t17 := move t0 : 30   [if ⟨8, false⟩]
    refine wpB_take (i := 9) (v := undef) (get_of_drop rfl) (by kernel_rfl) (by kernel_rfl) (by kernel_rfl) (by kernel_rfl) (fun _ _ _ h => h) (Or.inr ⟨by rfl, rfl⟩) hHeld ?_
    try simp only [Act.put, List.setIfInBounds_toArray, List.set_cons_zero, List.set_cons_succ]
    -- 10: t18 := CALL fn16(t17) : 3   [if ⟨8, false⟩]
    refine wpB_take (i := 10) (v := undef) (get_of_drop rfl) (by kernel_rfl) (by kernel_rfl) (by kernel_rfl) (by kernel_rfl) (fun _ _ _ h => h) (Or.inr ⟨by rfl, rfl⟩) hHeld ?_
    try simp only [Act.put, List.setIfInBounds_toArray, List.set_cons_zero, List.set_cons_succ]
    -- 11: t19 := binOp BinOp.neq 3 t18 #i64:1 3 : 4   [if ⟨8, false⟩]
    refine wpB_take (i := 11) (v := undef) (get_of_drop rfl) (by kernel_rfl) (by kernel_rfl) (by kernel_rfl) (by kernel_rfl) (fun _ _ _ h => h) (Or.inr ⟨by rfl, rfl⟩) hHeld ?_
    try simp only [Act.put, List.setIfInBounds_toArray, List.set_cons_zero, List.set_cons_succ]
    -- 12: t20 := pick t16 #true t19 : 4
    refine wpB_take (i := 12) (v := ?_) (get_of_drop rfl) (by kernel_rfl) (by kernel_rfl) (by kernel_rfl) (by kernel_rfl) (fun _ _ _ h => h) (Or.inl ⟨by rfl, ?_⟩) hHeld ?_
    rotate_left
    · (intro w hSw; (try dsimp only at hSw); go_simp <;> with_reducible rfl)
    try simp only [Act.put, List.setIfInBounds_toArray, List.set_cons_zero, List.set_cons_succ]
    refine wpB_done (by kernel_rfl) ?_ _
    go_wp2_with fail
    go_end0
    have e1 : ackR r m = r := by unfold ackR; rw [if_pos (.inl HV.out)]
    rw [e1]
    exact ⟨rfl, H1.out.far ((Chg.refl (fun _ => False) w1).drew), (C1.out.drew).mono (fun _ h _ => h.elim)⟩
  have hv2 : (m.view != r.s.view) = false := by simp [hv]
  have HV := hid hv
  clear hv
  have hst := (stR_iff.1 HOK.out.st).1
  have HST := hid (show 0 ≤ r.s.view ∧ r.s.view ≤ 1099511627776 from ⟨hst.1, hst.2.1⟩)
  have hro : roleR r = 0 ∨ roleR r = 1 ∨ roleR r = 2 := by unfold roleR; split; exact .inr (.inr rfl); split; exact .inr (.inl rfl); exact .inl rfl
  clear hst
  refine wpB_start (fun wx : World => Chg (fun _ => False) w1 wx) (by kernel_rfl) ?_
  have hHeld : (fun wx : World => Chg (fun _ => False) w1 wx) _ := (Chg.refl (fun _ => False) w1).drew
  -- 0: t8 := fieldAddr 41 t3 1 : 0
  refine wpB_take (i := 0) (v := ?_) (get_of_drop rfl) (by kernel_rfl) (by kernel_rfl) (by kernel_rfl) (by kernel_rfl) (fun _ _ _ h => h) (Or.inl ⟨by rfl, ?_⟩) hHeld ?_
  rotate_left
  · (intro w hSw; (try dsimp only at hSw); go_simp <;> with_reducible rfl)
  try simp only [Act.put, List.setIfInBounds_toArray, List.set_cons_zero, List.set_cons_succ]
  -- 1: t9 := load 3 t8 : 3
  refine wpB_take (i := 1) (v := ?_) (get_of_drop rfl) (by kernel_rfl) (by kernel_rfl) (by kernel_rfl) (by kernel_rfl) (fun _ _ _ h => h) (Or.inl ⟨by rfl, ?_⟩) hHeld ?_
  rotate_left
  · (intro w hSw; (try dsimp only at hSw); go_simp <;> with_reducible rfl)
  try simp only [Act.put, List.setIfInBounds_toArray, List.set_cons_zero, List.set_cons_succ]
  -- 2: t10 := move t0 : 30
  refine wpB_take (i := 2) (v := ?_) (get_of_drop rfl) (by kernel_rfl) (by kernel_rfl) (by kernel_rfl) (by kernel_rfl) (fun _ _ _ h => h) (Or.inl ⟨by rfl, ?_⟩) hHeld ?_
  rotate_left
  · (intro w hSw; (try dsimp only at hSw); go_simp <;> with_reducible rfl)
  try simp only [Act.put, List.setIfInBounds_toArray, List.set_cons_zero, List.set_cons_succ]
  -- 3: t11 := nilCheck t10 : 0
  refine wpB_take (i := 3) (v := ?_) (get_of_drop rfl) (by kernel_rfl) (by kernel_rfl) (by kernel_rfl) (by kernel_rfl) (fun _ _ _ h => h) (Or.inl ⟨by rfl, ?_⟩) hHeld ?_
  rotate_left
  · (intro w hSw; (try dsimp only at hSw); go_simp <;> with_reducible rfl)
  try simp only [Act.put, List.setIfInBounds_toArray, List.set_cons_zero, List.set_cons_succ]
  -- 4: t12 := fieldAddr 100 t11 1 : 0
  refine wpB_take (i := 4) (v := ?_) (get_of_drop rfl) (by kernel_rfl) (by kernel_rfl) (by kernel_rfl) (by kernel_rfl) (fun _ _ _ h => h) (Or.inl ⟨by rfl, ?_⟩) hHeld ?_
  rotate_left
  · (intro w hSw; (try dsimp only at hSw); go_simp <;> with_reducible rfl)
  try simp only [Act.put, List.setIfInBounds_toArray, List.set_cons_zero, List.set_cons_succ]
  -- 5: t13 := fieldAddr 26 t12 0 : 0
  refine wpB_take (i := 5) (v := ?_) (get_of_drop rfl) (by kernel_rfl) (by kernel_rfl) (by kernel_rfl) (by kernel_rfl) (fun _ _ _ h => h) (Or.inl ⟨by rfl, ?_⟩) hHeld ?_
  rotate_left
  · (intro w hSw; (try dsimp only at hSw); go_simp <;> with_reducible rfl)
  try simp only [Act.put, List.setIfInBounds_toArray, List.set_cons_zero, List.set_cons_succ]
  -- 6: t14 := load 3 t13 : 3
  refine wpB_take (i := 6) (v := ?_) (get_of_drop rfl) (by kernel_rfl) (by kernel_rfl) (by kernel_rfl) (by kernel_rfl) (fun _ _ _ h => h) (Or.inl ⟨by rfl, ?_⟩) hHeld ?_
  rotate_left
  · (intro w hSw; (try dsimp only at hSw); go_simp <;> with_reducible rfl)
  try simp only [Act.put, List.setIfInBounds_toArray, List.set_cons_zero, List.set_cons_succ]
  -- 7: t15 := binOp BinOp.neq 3 t9 t14 3 : 4
  refine wpB_take (i := 7) (v := ?_) (get_of_drop rfl) (by kernel_rfl) (by kernel_rfl) (by kernel_rfl) (by kernel_rfl) (fun _ _ _ h => h) (Or.inl ⟨by rfl, ?_⟩) hHeld ?_
  rotate_left
  · (intro w hSw; (try dsimp only at hSw); go_simp <;> with_reducible rfl)
  try simp only [Act.put, List.setIfInBounds_toArray, List.set_cons_zero, List.set_cons_succ]
  -- 8: t16 := move t15 : 4
  refine wpB_take (i := 8) (v := ?_) (get_of_drop rfl) (by kernel_rfl) (by kernel_rfl) (by kernel_rfl) (by kernel_rfl) (fun _ _ _ h => h) (Or.inl ⟨by rfl, ?_⟩) hHeld ?_
  rotate_left
  · (intro w hSw; (try dsimp only at hSw); go_simp <;> with_reducible rfl)
  try simp only [Act.put, List.setIfInBounds_toArray, List.set_cons_zero, List.set_cons_succ]
  -- 9: t17 := move t0 : 30   [if ⟨8, false⟩]
  refine wpB_take (i := 9) (v := ?_) (get_of_drop rfl) (by kernel_rfl) (by kernel_rfl) (by kernel_rfl) (by kernel_rfl) (fun _ _ _ h => h) (Or.inl ⟨by rfl, ?_⟩) hHeld ?_
  rotate_left
  · (intro w hSw; (try dsimp only at hSw); go_simp <;> with_reducible rfl)
  try simp only [Act.put, List.setIfInBounds_toArray, List.set_cons_zero, List.set_cons_succ]
  -- 10: t18 := CALL fn16(t17) : 3   [if ⟨8, false⟩]
  refine wpB_act (i := 10) (by kernel_rfl) (get_of_drop rfl) (fun K hK => ?_)
  go_simp
  refine (role_any (H1.out.far hHeld) HOK.out.cfg.1 HST.out).mono ?_
  rintro e' wy ⟨rfl, hwy⟩
  have HW := hid (show Chg (fun _ => False) w1 wy from hHeld.trans hwy (fun _ h _ => h))
  refine hK.out _ _ ?_ (fun hHeld2 => ?_)
  · first | assumption | exact HW.out
  clear hHeld hK K
  have hHeld := hHeld2
  clear hHeld2
  try simp only [Act.put, List.setIfInBounds_toArray, List.set_cons_zero, List.set_cons_succ]
  -- 11: t19 := binOp BinOp.neq 3 t18 #i64:1 3 : 4   [if ⟨8, false⟩]
  refine wpB_take (i := 11) (v := ?_) (get_of_drop rfl) (by kernel_rfl) (by kernel_rfl) (by kernel_rfl) (by kernel_rfl) (fun _ _ _ h => h) (Or.inl ⟨by rfl, ?_⟩) hHeld ?_
  rotate_left
  · (intro w hSw; (try dsimp only at hSw); go_simp <;> with_reducible rfl)
  try simp only [Act.put, List.setIfInBounds_toArray, List.set_cons_zero, List.set_cons_succ]
  -- 12: t20 := pick t16 #true t19 : 4
  refine wpB_take (i := 12) (v := ?_) (get_of_drop rfl) (by kernel_rfl) (by kernel_rfl) (by kernel_rfl) (by kernel_rfl) (fun _ _ _ h => h) (Or.inl ⟨by rfl, ?_⟩) hHeld ?_
  rotate_left
  · (intro w hSw; (try dsimp only at hSw); go_simp <;> with_reducible rfl)
  try simp only [Act.put, List.setIfInBounds_toArray, List.set_cons_zero, List.set_cons_succ]
  refine wpB_done (by kernel_rfl) ?_ _
  have CW := hid hHeld
  clear hHeld U_3 X_1 hv2
  have H2 := hid (H1.out.far CW.out)
  have BX2 := hid (CW.out.blk BX.out (fun h => h))
  by_cases hr1 : roleR r = 1
  case neg =>
    have hr2 : (roleR r != 1) = true := by simp [hr1]
    have HR := hid hr1
    clear hr1 hro
    go_wp2_with fail
    go_end0
    have e1 : ackR r m = r := by unfold ackR; rw [if_pos (.inr HR.out)]
    rw [e1]
    exact ⟨rfl, H2.out, (C1.out.trans CW.out (fun _ h _ => h)).mono (fun _ h _ => h.elim)⟩
  have hr2 : (roleR r != 1) = false := by simp [hr1]
  have HR := hid hr1
  clear hr1 hro
  go_wp2_with fail
  clear hr2
  have BP2 := hid H2.out.blk
  have IA := hid H2.out.acks
  have hmn := msgR_num HMR.out
  have HMN := hid hmn
  have HSW := hid (show (Lit.int .i64 m.src).wf = true from numW_of (by omega))
  have hlook : ∀ wx, Chg (fun _ => False) wy wx → (Instr.lookup 96 (.map (some b1)) (.int .i64 m.src) false).run Try.prog wx = .ok (.int .i64 ((look m.src r.acks).getD 0)) wx := fun wx hx => by
    have := (IA.out.chg hx (fun h => h)).lookup (P := Try.prog) false map_ty1 Try.underlying3 (zero_int_run wx) HSW.out
    rw [this, look_map]
    cases look m.src r.acks <;> rfl
  have U_9 : ∀ wx, Chg (fun _ => False) wy wx → wx.cell? ⟨p, 9, none⟩ = some (.map (some b1)) := fun wx hx => (cellAt (hx.blk BP2.out (fun h => h)) 9).trans rfl
  have X_2 : ∀ wx, Chg (fun _ => False) wy wx → wx.cell? ⟨b, 2, none⟩ = some (.int .i64 m.src) := fun wx hx => (cellAt (hx.blk BX2.out (fun h => h)) 2).trans rfl
  have X_4 : ∀ wx, Chg (fun _ => False) wy wx → wx.cell? ⟨b, 4, none⟩ = some (.int .i64 m.op) := fun wx hx => (cellAt (hx.blk BX2.out (fun h => h)) 4).trans rfl
  obtain ⟨q, hq⟩ : ∃ q_, q_ = mx ((look m.src r.acks).getD 0) (mn m.op (n : Int)) := ⟨_, rfl⟩
  obtain ⟨w3, hr3, g3, k3⟩ := (IA.out.chg ((Chg.refl (fun _ => False) wy).drew) (fun h => h)).update (P := Try.prog) map_ty1 Try.underlying3 HSW.out (.int .i64 q) (by have := HAL.out; simp; omega)
  have eq : ups m.src q r.acks = acksR r m := by unfold acksR; rw [hq, mx_eq, mn_eq, L1.out]
  have HQ := hid hq
  have HR3 := hid hr3
  have G3 := hid ((H2.out.far ((Chg.refl (fun _ => False) wy).drew)).acks_set k3 g3)
  have K3 := hid k3
  have HB1 := hid (show ¬ b = b1 from fun e => by have h1 := H2.out.lt.2.1; have := HW0.out; omega)
  have BX3 := hid (k3.blk (((Chg.refl (fun _ => False) wy).drew).blk BX2.out (fun h => h)) HB1.out)
  rw [eq] at G3
  clear hr3 g3 k3 eq hmn hq
  have hrU := HR3.out
  rw [HQ.out] at hrU
  refine wpB_start (fun wx : World => Chg (fun _ => False) wy wx) (by kernel_rfl) ?_
  have hHeld : (fun wx : World => Chg (fun _ => False) wy wx) _ := (Chg.refl (fun _ => False) wy).drew
  -- 0: t21 := move t0 : 30
  refine wpB_take (i := 0) (v := ?_) (get_of_drop rfl) (by kernel_rfl) (by kernel_rfl) (by kernel_rfl) (by kernel_rfl) (fun _ _ _ h => h) (Or.inl ⟨by rfl, ?_⟩) hHeld ?_
  rotate_left
  · (intro w hSw; (try dsimp only at hSw); go_simp <;> with_reducible rfl)
  try simp only [Act.put, List.setIfInBounds_toArray, List.set_cons_zero, List.set_cons_succ]
  -- 1: t22 := nilCheck t21 : 0
  refine wpB_take (i := 1) (v := ?_) (get_of_drop rfl) (by kernel_rfl) (by kernel_rfl) (by kernel_rfl) (by kernel_rfl) (fun _ _ _ h => h) (Or.inl ⟨by rfl, ?_⟩) hHeld ?_
  rotate_left
  · (intro w hSw; (try dsimp only at hSw); go_simp <;> with_reducible rfl)
  try simp only [Act.put, List.setIfInBounds_toArray, List.set_cons_zero, List.set_cons_succ]
  -- 2: t23 := fieldAddr 100 t22 3 : 0
  refine wpB_take (i := 2) (v := ?_) (get_of_drop rfl) (by kernel_rfl) (by kernel_rfl) (by kernel_rfl) (by kernel_rfl) (fun _ _ _ h => h) (Or.inl ⟨by rfl, ?_⟩) hHeld ?_
  rotate_left
  · (intro w hSw; (try dsimp only at hSw); go_simp <;> with_reducible rfl)
  try simp only [Act.put, List.setIfInBounds_toArray, List.set_cons_zero, List.set_cons_succ]
  -- 3: t24 := load 96 t23 : 96
  refine wpB_take (i := 3) (v := ?_) (get_of_drop rfl) (by kernel_rfl) (by kernel_rfl) (by kernel_rfl) (by kernel_rfl) (fun _ _ _ h => h) (Or.inl ⟨by rfl, ?_⟩) hHeld ?_
  rotate_left
  · (intro w hSw; (try dsimp only at hSw); go_simp <;> with_reducible rfl)
  try simp only [Act.put, List.setIfInBounds_toArray, List.set_cons_zero, List.set_cons_succ]
  -- 4: t25 := fieldAddr 41 t3 2 : 0
  refine wpB_take (i := 4) (v := ?_) (get_of_drop rfl) (by kernel_rfl) (by kernel_rfl) (by kernel_rfl) (by kernel_rfl) (fun _ _ _ h => h) (Or.inl ⟨by rfl, ?_⟩) hHeld ?_
  rotate_left
  · (intro w hSw; (try dsimp only at hSw); go_simp <;> with_reducible rfl)
  try simp only [Act.put, List.setIfInBounds_toArray, List.set_cons_zero, List.set_cons_succ]
  -- 5: t26 := load 3 t25 : 3
  refine wpB_take (i := 5) (v := ?_) (get_of_drop rfl) (by kernel_rfl) (by kernel_rfl) (by kernel_rfl) (by kernel_rfl) (fun _ _ _ h => h) (Or.inl ⟨by rfl, ?_⟩) hHeld ?_
  rotate_left
  · (intro w hSw; (try dsimp only at hSw); go_simp <;> with_reducible rfl)
  try simp only [Act.put, List.setIfInBounds_toArray, List.set_cons_zero, List.set_cons_succ]
  -- 6: t27 := move t0 : 30
  refine wpB_take (i := 6) (v := ?_) (get_of_drop rfl) (by kernel_rfl) (by kernel_rfl) (by kernel_rfl) (by kernel_rfl) (fun _ _ _ h => h) (Or.inl ⟨by rfl, ?_⟩) hHeld ?_
  rotate_left
  · (intro w hSw; (try dsimp only at hSw); go_simp <;> with_reducible rfl)
  try simp only [Act.put, List.setIfInBounds_toArray, List.set_cons_zero, List.set_cons_succ]
  -- 7: t28 := nilCheck t27 : 0
  refine wpB_take (i := 7) (v := ?_) (get_of_drop rfl) (by kernel_rfl) (by kernel_rfl) (by kernel_rfl) (by kernel_rfl) (fun _ _ _ h => h) (Or.inl ⟨by rfl, ?_⟩) hHeld ?_
  rotate_left
  · (intro w hSw; (try dsimp only at hSw); go_simp <;> with_reducible rfl)
  try simp only [Act.put, List.setIfInBounds_toArray, List.set_cons_zero, List.set_cons_succ]
  -- 8: t29 := fieldAddr 100 t28 3 : 0
  refine wpB_take (i := 8) (v := ?_) (get_of_drop rfl) (by kernel_rfl) (by kernel_rfl) (by kernel_rfl) (by kernel_rfl) (fun _ _ _ h => h) (Or.inl ⟨by rfl, ?_⟩) hHeld ?_
  rotate_left
  · (intro w hSw; (try dsimp only at hSw); go_simp <;> with_reducible rfl)
  try simp only [Act.put, List.setIfInBounds_toArray, List.set_cons_zero, List.set_cons_succ]
  -- 9: t30 := load 96 t29 : 96
  refine wpB_take (i := 9) (v := ?_) (get_of_drop rfl) (by kernel_rfl) (by kernel_rfl) (by kernel_rfl) (by kernel_rfl) (fun _ _ _ h => h) (Or.inl ⟨by rfl, ?_⟩) hHeld ?_
  rotate_left
  · (intro w hSw; (try dsimp only at hSw); go_simp <;> with_reducible rfl)
  try simp only [Act.put, List.setIfInBounds_toArray, List.set_cons_zero, List.set_cons_succ]
  -- 10: t31 := fieldAddr 41 t3 2 : 0
  refine wpB_take (i := 10) (v := ?_) (get_of_drop rfl) (by kernel_rfl) (by kernel_rfl) (by kernel_rfl) (by kernel_rfl) (fun _ _ _ h => h) (Or.inl ⟨by rfl, ?_⟩) hHeld ?_
  rotate_left
  · (intro w hSw; (try dsimp only at hSw); go_simp <;> with_reducible rfl)
  try simp only [Act.put, List.setIfInBounds_toArray, List.set_cons_zero, List.set_cons_succ]
  -- 11: t32 := load 3 t31 : 3
  refine wpB_take (i := 11) (v := ?_) (get_of_drop rfl) (by kernel_rfl) (by kernel_rfl) (by kernel_rfl) (by kernel_rfl) (fun _ _ _ h => h) (Or.inl ⟨by rfl, ?_⟩) hHeld ?_
  rotate_left
  · (intro w hSw; (try dsimp only at hSw); go_simp <;> with_reducible rfl)
  try simp only [Act.put, List.setIfInBounds_toArray, List.set_cons_zero, List.set_cons_succ]
  -- 12: t33 := lookup 96 t30 t32 false : 3
  refine wpB_take (i := 12) (v := ?_) (get_of_drop rfl) (by kernel_rfl) (by kernel_rfl) (by kernel_rfl) (by kernel_rfl) (fun _ _ _ h => h) (Or.inl ⟨by rfl, ?_⟩) hHeld ?_
  rotate_left
  · (intro w hSw; (try dsimp only at hSw); go_simp <;> with_reducible rfl)
  try simp only [Act.put, List.setIfInBounds_toArray, List.set_cons_zero, List.set_cons_succ]
  -- 13: t34 := fieldAddr 41 t3 4 : 0
  refine wpB_take (i := 13) (v := ?_) (get_of_drop rfl) (by kernel_rfl) (by kernel_rfl) (by kernel_rfl) (by kernel_rfl) (fun _ _ _ h => h) (Or.inl ⟨by rfl, ?_⟩) hHeld ?_
  rotate_left
  · (intro w hSw; (try dsimp only at hSw); go_simp <;> with_reducible rfl)
  try simp only [Act.put, List.setIfInBounds_toArray, List.set_cons_zero, List.set_cons_succ]
  -- 14: t35 := load 3 t34 : 3
  refine wpB_take (i := 14) (v := ?_) (get_of_drop rfl) (by kernel_rfl) (by kernel_rfl) (by kernel_rfl) (by kernel_rfl) (fun _ _ _ h => h) (Or.inl ⟨by rfl, ?_⟩) hHeld ?_
  rotate_left
  · (intro w hSw; (try dsimp only at hSw); go_simp <;> with_reducible rfl)
  try simp only [Act.put, List.setIfInBounds_toArray, List.set_cons_zero, List.set_cons_succ]
  -- 15: t36 := move t0 : 30
  refine wpB_take (i := 15) (v := ?_) (get_of_drop rfl) (by kernel_rfl) (by kernel_rfl) (by kernel_rfl) (by kernel_rfl) (fun _ _ _ h => h) (Or.inl ⟨by rfl, ?_⟩) hHeld ?_
  rotate_left
  · (intro w hSw; (try dsimp only at hSw); go_simp <;> with_reducible rfl)
  try simp only [Act.put, List.setIfInBounds_toArray, List.set_cons_zero, List.set_cons_succ]
  -- 16: t37 := CALL fn76(t36) : 3
  refine wpB_act (i := 16) (by kernel_rfl) (get_of_drop rfl) (fun K hK => ?_)
  go_simp
  refine (length_any (H2.out.far hHeld) HN.out).mono ?_
  rintro e' wz ⟨rfl, rfl⟩
  refine hK.out _ _ ?_ (fun hHeld2 => ?_)
  · first | assumption | exact Chg.alloc hHeld _
  clear hHeld hK K
  have hHeld := hHeld2
  clear hHeld2
  try simp only [Act.put, List.setIfInBounds_toArray, List.set_cons_zero, List.set_cons_succ]
  -- 17: t38 := min(t35, t37) types [3, 3] : 3
  refine wpB_take (i := 17) (v := ?_) (get_of_drop rfl) (by kernel_rfl) (by kernel_rfl) (by kernel_rfl) (by kernel_rfl) (fun _ _ _ h => h) (Or.inl ⟨by rfl, ?_⟩) hHeld ?_
  rotate_left
  · (intro w hSw; (try dsimp only at hSw); go_simp <;> with_reducible rfl)
  try simp only [Act.put, List.setIfInBounds_toArray, List.set_cons_zero, List.set_cons_succ]
  -- 18: t39 := max(t33, t38) types [3, 3] : 3
  refine wpB_take (i := 18) (v := ?_) (get_of_drop rfl) (by kernel_rfl) (by kernel_rfl) (by kernel_rfl) (by kernel_rfl) (fun _ _ _ h => h) (Or.inl ⟨by rfl, ?_⟩) hHeld ?_
  rotate_left
  · (intro w hSw; (try dsimp only at hSw); go_simp <;> with_reducible rfl)
  try simp only [Act.put, List.setIfInBounds_toArray, List.set_cons_zero, List.set_cons_succ]
  -- 19: t- := mapUpdate 96 t24 t26 t39 : 0 (BARRIER)
  refine wpB_bar (i := 19) (by kernel_rfl) (get_of_drop rfl) (by kernel_rfl) (fun K hK => ?_)
  go_simp
  refine hK.out _ _ (fun _ : World => True) ?_
  clear hHeld hK K
  have hHeld := trivial
  try simp only [Act.put, List.setIfInBounds_toArray, List.set_cons_zero, List.set_cons_succ]
  refine wpB_done (by kernel_rfl) ?_ _
  clear hrU U_9 X_2 X_4 hlook
  go_wp2_with fail
  refine (length_any G3.out HN.out).mono ?_
  rintro e' wz ⟨rfl, rfl⟩
  go_wp2_with fail
  obtain ⟨ra, hra⟩ : ∃ q_, q_ = { r with acks := acksR r m } := ⟨_, rfl⟩
  rw [← hra] at G3
  have HRA := hid hra
  have hcm : ra.s.commit = r.s.commit := by rw [hra]
  have hni : ra.n = r.n := by rw [hra]
  clear hra
  have CK := hid (show Chg (fun k => k = b1) w w3 from (C1.out.trans CW.out (fun _ h _ => h)).drew.mono (S' := fun k => k = b1) (fun _ h _ => h.elim) |>.trans K3.out (fun _ h _ => h))
  have BP3 := hid G3.out.blk
  have IA3 := hid G3.out.acks
  have HB13 := hid (show b1 < w3.heap.size from IA3.out.lt)
  rw [hcm] at BP3
  have HAC := hid (show ra.acks = acksR r m by rw [HRA.out])
  rw [show ra.acks = acksR r m from HAC.out] at IA3
  clear hcm
  go_loopw [4] (fun i wr => ∃ (j : Nat) (J : Int), J = (j : Int) ∧ j ≤ n ∧ i = .int .i64 J ∧ ackTo r (acksR r m) j = ackTo r (acksR r m) n ∧ (r.s.commit ≤ (j : Int)) ∧ Chg (fun _ => False) w3 wr) (fun i _ => (intOf i).toNat)
  case atStart => exact ⟨n, (n : Int), rfl, Nat.le_refl _, rfl, rfl, by have h1 := (stR_iff.1 HOK.out.st).1; have := L1.out; omega, Chg.refl _ _⟩
  case round =>
    revert hrel; revert wr; intro wo hrel
    obtain ⟨j, J, hJe, hj, rfl, hto, hcj, hC⟩ := hrel
    have HJE := hid hJe
    have HTO := hid hto
    have HCJ := hid hcj
    have HC := hid hC
    have HJ := hid hj
    have BPo := hid (hC.blk BP3.out (fun h => h))
    clear hto hC hcj hj hJe
    have P_5 : wo.cell? ⟨p, 5, none⟩ = some (.int .i64 r.s.commit) := (cellAt BPo.out 5).trans rfl
    have P_9 : wo.cell? ⟨p, 9, none⟩ = some (.map (some b1)) := (cellAt BPo.out 9).trans rfl
    by_cases hgt : r.s.commit < J
    case neg =>
      have HE := hid (show (j : Int) = r.s.commit by have := HCJ.out; have := HJE.out; omega)
      have HZ := hid (show ackTo r (acksR r m) j = r.s.commit by
        cases j with
        | zero => rfl
        | succ j => rw [ackTo, if_neg (by have := HJE.out; omega)])
      go_wp2_with fail
      go_end0
      have e1 : ackR r m = ra := by
        unfold ackR
        rw [if_neg (fun h => by rcases h with h | h; exact h HV.out; exact h HR.out), ← L1.out, ← HTO.out, HZ.out, HRA.out]
      rw [e1]
      exact ⟨rfl, G3.out.far HC.out, (CK.out.trans HC.out (fun _ h _ => h.elim)).mono (fun _ h _ => .inr (.inl h))⟩
    obtain ⟨j', hj'⟩ : ∃ j', j = j' + 1 := ⟨j - 1, by have h1 := (stR_iff.1 HOK.out.st).1; have := HJE.out; omega⟩
    subst hj'
    have HJP := hid (show 0 ≤ J ∧ J ≤ 64 by have := HJE.out; have := HJ.out; have := HN.out; omega)
    have hjp := HJP.out.1
    have hjp2 := HJP.out.2
    obtain ⟨wi, hri, gi, ki⟩ := (IA3.out.chg HC.out (fun h => h)).range (P := Try.prog) map_ty1
    have GI := hid gi
    have KI := hid ki
    have HOs := hid (show b1 < wo.heap.size from Nat.lt_of_lt_of_le HB13.out HC.out.size)
    clear gi ki
    obtain ⟨ri, hri2⟩ : ∃ q_, q_ = wo.heap.size := ⟨_, rfl⟩
    rw [← hri2] at hri GI HOs
    have HRI := hid hri2
    clear hri2
    go_wp2_with fail
    clear hri P_5 P_9
    go_loopg [5] ((acksR r m).length) (fun g cv wr => ∃ (cnt : Nat) (left : List (Int × Int)), left.length = g ∧ cv = .int .i64 (cnt : Int) ∧ IMit wr b1 ri ((acksR r m).map (fun q => (q.1, Value.int .i64 q.2))) (left.map (fun q => (q.1, Value.int .i64 q.2))) ∧ (cnt : Int) + (((left.filter (fun q => decide (J ≤ q.2))).length : Nat) : Int) = ackN (acksR r m) J ∧ cnt + left.length ≤ (acksR r m).length + 1 ∧ Chg (fun _ => False) wo wr)
    case atStart => exact ⟨1, acksR r m, rfl, rfl, GI.out, by unfold ackN; omega, by omega, KI.out⟩
    case round =>
      obtain ⟨cnt, left, hg, rfl, hit, hsum, hlen, hCi⟩ := hrel
      have HG := hid hg
      have HIT := hid hit
      have HSUM := hid hsum
      have HLEN := hid hlen
      have HCI := hid hCi
      clear hg hit hsum hlen hCi
      rcases HIT.out.next (P := Try.prog) 0 with ⟨h0, hrun⟩ | ⟨p', left', w', hperm, hrun, hit2, hk2, hent⟩
      · have HL0 := hid (show left = [] by simpa using h0)
        clear h0
        have BPi := hid (HCI.out.blk BPo.out (fun h => h))
        have HRep := hid (G3.out.far (HC.out.trans HCI.out (fun _ h _ => h)))
        have HCN := hid (show (cnt : Int) = ackN (acksR r m) J by have := HSUM.out; rw [HL0.out] at this; simpa using this)
        have hni2 := hni
        go_wp2_with fail
        refine (half_any HRep.out (by rw [hni2]; exact HOK.out.cfg.1)).mono ?_
        rintro e' wz ⟨rfl, rfl⟩
        have hhf : halfR ra = halfR r := by unfold halfR; rw [hni2]
        rw [hhf]
        by_cases hge : halfR r ≤ (cnt : Int)
        · have HGE := hid hge
          have P_5 : wr.cell? ⟨p, 5, none⟩ = some (.int .i64 r.s.commit) := (cellAt BPi.out 5).trans rfl
          have F_5 : wr.frozen? ⟨p, 5, none⟩ = false := freeAt BPi.out 5
          clear hhf hni2
          go_wp2_with fail
          go_end0
          have e2 : ackTo r (acksR r m) n = J := by rw [← HTO.out, ackTo, ← HJE.out, if_pos hgt, if_pos (by rw [← HCN.out]; exact HGE.out)]
          have e1 : ackR r m = { ra with s := { ra.s with commit := J } } := by
            unfold ackR
            rw [if_neg (fun h => by rcases h with h | h; exact h HV.out; exact h HR.out), ← L1.out, e2, HRA.out]
          have hcc := (Chg.refl (fun k => k = p) wr).set (p := ⟨p, 5, none⟩) (fun _ => rfl) (.int .i64 J)
          have hbb := blk_set HRep.out.blk 5 (.int .i64 J)
          rw [e1]
          refine ⟨rfl, HRep.out.put (r' := { ra with s := { ra.s with commit := J } }) hcc hbb rfl rfl rfl rfl rfl, ?_⟩
          exact ((CK.out.trans (HC.out.trans HCI.out (fun _ h _ => h)) (fun _ h _ => h.elim)).mono (S' := M4 p b1 b2 b3) (fun _ h _ => .inr (.inl h))).trans hcc (fun _ h _ => .inl h)
        · have hlt3 : (cnt : Int) < halfR r := by omega
          have hjb : (j' : Int) ≤ 64 := by have h1 := HJ.out; have h2 := HN.out; omega
          have HGE := hid hlt3
          clear hhf hni2
          go_wp2_with fail
          go_roundw
          case measure => have := HJE.out; simp [intOf]; omega
          case rel => exact ⟨j', J - 1, by have := HJE.out; omega, by have := HJ.out; omega, by go_num, by rw [← HTO.out, ackTo, ← HJE.out, if_pos hgt, if_neg (by rw [← HCN.out]; have := HGE.out; omega)], by have := HJE.out; omega, HC.out.trans HCI.out (fun _ h _ => h)⟩
      · obtain ⟨q', hq', ln, hln, hperm2⟩ : ∃ q' : Int × Int, p' = (q'.1, Value.int .i64 q'.2) ∧ ∃ ln : List (Int × Int), left' = ln.map (fun q => (q.1, Value.int .i64 q.2)) ∧ left.Perm (q' :: ln) := perm_map_cons hperm
        subst hq'
        subst hln
        have HIT2 := hid hit2
        have HLEN2 := hid hperm2.length_eq
        have HFIL := hid ((hperm2.filter (fun q => decide (J ≤ q.2))).length_eq)
        have HCI2 := hid (show Chg (fun _ => False) wo w' from HCI.out.trans hk2 (fun j hj hl => by have := HRI.out; omega))
        have hcb2 : (acksR r m).length ≤ r.acks.length + 1 := by
          unfold acksR
          rw [ups_len]
          split <;> omega
        have HCB := hid (show cnt ≤ 2000 by have h1 := HLEN.out; have h3 := HAL.out; omega)
        clear hcb2
        have hcb : cnt ≤ 2000 := HCB.out
        clear hperm hit2 hk2 hperm2
        by_cases hge : J ≤ q'.2
        · have HGE := hid hge
          go_wp2_with fail
          go_roundg (ln.length)
          case measure => have h1 := HG.out; have h2 := HLEN2.out; simp at h2; omega
          case rel => exact ⟨cnt + 1, ln, rfl, by go_num, HIT2.out, by have h1 := HSUM.out; have h2 := HFIL.out; rw [List.filter_cons, if_pos (by simpa using HGE.out)] at h2; simp at h2; omega, by have h1 := HLEN.out; have h2 := HLEN2.out; simp at h2; omega, HCI2.out⟩
        · have HGE := hid hge
          go_wp2_with fail
          go_roundg (ln.length)
          case measure => have h1 := HG.out; have h2 := HLEN2.out; simp at h2; omega
          case rel => exact ⟨cnt, ln, rfl, rfl, HIT2.out, by have h1 := HSUM.out; have h2 := HFIL.out; rw [List.filter_cons, if_neg (by simpa using HGE.out)] at h2; omega, by have h1 := HLEN.out; have h2 := HLEN2.out; simp at h2; omega, HCI2.out⟩
end Go.Proofs.Ytaldoajdhbndhaa.Pa


/- decide. -/

namespace Go.Proofs.Ytaldoajdhbndhaa.Pa

set_option linter.unusedVariables false

set_option linter.unusedSimpArgs false

open Go.RowKit Go.Proofs.Ytaldoajdhbndhaa.C

attribute [local go_sem] max2_int min2_int max_two min_two

theorem zero_msg_run (w : World) : (zeroValue 41).run Try.prog w = .ok (.agg #[.int .i64 0, .int .i64 0, .int .i64 0, .int .i64 0, .int .i64 0, .int .i64 0, .int .i64 0, .slice none 0 0]) w := by kernel_rfl
theorem better_iff {b : Best} {m : Msg} : better b m = true ↔ b.normal < m.normal ∨ (m.normal = b.normal ∧ b.log.length < m.log.length) := by
  unfold better
  rw [Bool.or_eq_true, Bool.and_eq_true, decide_eq_true_eq, decide_eq_true_eq, decide_eq_true_eq]
set_option maxHeartbeats 4000000 in
set_option maxRecDepth 100000 in
theorem decide_any {w0 w : World} {p b1 b2 b3 : Nat} {X : Nat → Prop} {r : Rp} {A : Option Addr} {n c : Nat} {O : Value} (h : Rep w0 w p b1 b2 b3 X r A n c O) (hok : RpOk r) (hl : r.chgs.length ≤ 1000) (ho : r.out.length ≤ 900) :
    Calls Try.prog 90 #[.pointer (some ⟨p, 0, none⟩)] w (RepTo w0 w p b1 b2 b3 X O (.tuple #[]) (decideR r)) := by
  have H := hid h
  have BP := hid h.blk
  have HOK := hid hok
  have HL := hid hl
  have HO := hid ho
  have hst := (stR_iff.1 hok.st).1
  have HV := hid (show 0 ≤ r.s.view ∧ r.s.view ≤ 1099511627776 from ⟨hst.1, hst.2.1⟩)
  have HN := hid (show n ≤ 64 by have h1 := h.log.1; omega)
  obtain ⟨V, hIM, hCh⟩ := h.chgs
  have HIM := hid hIM
  have HCH := hid hCh
  obtain ⟨cl, hcl⟩ : ∃ q_, q_ = r.chgs.length := ⟨_, rfl⟩
  have HCL := hid hcl
  have HVL := hid (show V.length = cl by rw [hcl]; have := congrArg List.length hCh.1; simpa using this)
  have hlen : ∀ wx, Chg (fun _ => False) w wx → (Builtin.len_ #[98] 3 #[.map (some b3)]).run Try.prog wx = .ok (.int .i64 (cl : Int)) wx := fun wx hx => by
    have := (HIM.out.chg hx (fun h => h)).len (P := Try.prog) map_ty3 3
    rw [this, HVL.out]
  have hlb : (cl : Int) ≤ 1000 := by omega
  have hwr : IntKind.i64.wrap ((cl : Int) + 1) = (cl : Int) + 1 := IntWalk.i64_in _ (by omega)
  have U_0 : ∀ wx, Chg (fun _ => False) w wx → wx.cell? ⟨p, 0, none⟩ = some (.int .i64 r.n) := fun wx hx => (cellAt (hx.blk BP.out (fun h => h)) 0).trans rfl
  have U_1 : ∀ wx, Chg (fun _ => False) w wx → wx.cell? ⟨p, 1, none⟩ = some (.int .i64 r.id) := fun wx hx => (cellAt (hx.blk BP.out (fun h => h)) 1).trans rfl
  have U_3 : ∀ wx, Chg (fun _ => False) w wx → wx.cell? ⟨p, 3, none⟩ = some (.int .i64 r.s.view) := fun wx hx => (cellAt (hx.blk BP.out (fun h => h)) 3).trans rfl
  have U_8 : ∀ wx, Chg (fun _ => False) w wx → wx.cell? ⟨p, 8, none⟩ = some (.bool r.ch) := fun wx hx => (cellAt (hx.blk BP.out (fun h => h)) 8).trans rfl
  have U_11 : ∀ wx, Chg (fun _ => False) w wx → wx.cell? ⟨p, 11, none⟩ = some (.map (some b3)) := fun wx hx => (cellAt (hx.blk BP.out (fun h => h)) 11).trans rfl
  clear h hok hst hl ho hIM hCh hcl
  go_enter Try.func90, Try.ntmps90
  go_wp2_with fail
  cases hch : r.ch
  case false =>
    rw [hch] at U_8
    have HE := hid (show ¬ (r.ch = true ∧ primR r r.s.view = r.id ∧ halfR r ≤ (r.chgs.length : Int) + 1) from fun h => by rw [hch] at h; exact absurd h.1 (by decide))
    clear hch
    refine wpB_start (fun wx : World => Chg (fun _ => False) w wx) (by kernel_rfl) ?_
    have hHeld : (fun wx : World => Chg (fun _ => False) w wx) _ := (Chg.refl (fun _ => False) w).drew
    -- 0: t8 := move t0 : 30
    refine wpB_take (i := 0) (v := ?_) (get_of_drop rfl) (by kernel_rfl) (by kernel_rfl) (by kernel_rfl) (by kernel_rfl) (fun _ _ _ h => h) (Or.inl ⟨by rfl, ?_⟩) hHeld ?_
    rotate_left
    · (intro w hSw; (try dsimp only at hSw); go_simp <;> with_reducible rfl)
    try simp only [Act.put, List.setIfInBounds_toArray, List.set_cons_zero, List.set_cons_succ]
    -- 1: t9 := nilCheck t8 : 0
    refine wpB_take (i := 1) (v := ?_) (get_of_drop rfl) (by kernel_rfl) (by kernel_rfl) (by kernel_rfl) (by kernel_rfl) (fun _ _ _ h => h) (Or.inl ⟨by rfl, ?_⟩) hHeld ?_
    rotate_left
    · (intro w hSw; (try dsimp only at hSw); go_simp <;> with_reducible rfl)
    try simp only [Act.put, List.setIfInBounds_toArray, List.set_cons_zero, List.set_cons_succ]
    -- 2: t10 := fieldAddr 100 t9 2 : 0
    refine wpB_take (i := 2) (v := ?_) (get_of_drop rfl) (by kernel_rfl) (by kernel_rfl) (by kernel_rfl) (by kernel_rfl) (fun _ _ _ h => h) (Or.inl ⟨by rfl, ?_⟩) hHeld ?_
    rotate_left
    · (intro w hSw; (try dsimp only at hSw); go_simp <;> with_reducible rfl)
    try simp only [Act.put, List.setIfInBounds_toArray, List.set_cons_zero, List.set_cons_succ]
    -- 3: t11 := load 4 t10 : 4
    refine wpB_take (i := 3) (v := ?_) (get_of_drop rfl) (by kernel_rfl) (by kernel_rfl) (by kernel_rfl) (by kernel_rfl) (fun _ _ _ h => h) (Or.inl ⟨by rfl, ?_⟩) hHeld ?_
    rotate_left
    · (intro w hSw; (try dsimp only at hSw); go_simp <;> with_reducible rfl)
    try simp only [Act.put, List.setIfInBounds_toArray, List.set_cons_zero, List.set_cons_succ]
    -- 4: t12 := unOp UnOp.not 4 t11 : 4
    refine wpB_take (i := 4) (v := ?_) (get_of_drop rfl) (by kernel_rfl) (by kernel_rfl) (by kernel_rfl) (by kernel_rfl) (fun _ _ _ h => h) (Or.inl ⟨by rfl, ?_⟩) hHeld ?_
    rotate_left
    · (intro w hSw; (try dsimp only at hSw); go_simp <;> with_reducible rfl)
    try simp only [Act.put, List.setIfInBounds_toArray, List.set_cons_zero, List.set_cons_succ]
    -- 5: t13 := move t12 : 4
    refine wpB_take (i := 5) (v := ?_) (get_of_drop rfl) (by kernel_rfl) (by kernel_rfl) (by kernel_rfl) (by kernel_rfl) (fun _ _ _ h => h) (Or.inl ⟨by rfl, ?_⟩) hHeld ?_
    rotate_left
    · (intro w hSw; (try dsimp only at hSw); go_simp <;> with_reducible rfl)
    try simp only [Act.put, List.setIfInBounds_toArray, List.set_cons_zero, List.set_cons_succ]
    -- 6: t14 := move t0 : 30   [if ⟨5, false⟩]
    refine wpB_take (i := 6) (v := undef) (get_of_drop rfl) (by kernel_rfl) (by kernel_rfl) (by kernel_rfl) (by kernel_rfl) (fun _ _ _ h => h) (Or.inr ⟨by rfl, rfl⟩) hHeld ?_
    try simp only [Act.put, List.setIfInBounds_toArray, List.set_cons_zero, List.set_cons_succ]
    -- 7: t15 := move t0 : 30   [if ⟨5, false⟩]
    refine wpB_take (i := 7) (v := undef) (get_of_drop rfl) (by kernel_rfl) (by kernel_rfl) (by kernel_rfl) (by kernel_rfl) (fun _ _ _ h => h) (Or.inr ⟨by rfl, rfl⟩) hHeld ?_
    try simp only [Act.put, List.setIfInBounds_toArray, List.set_cons_zero, List.set_cons_succ]
    -- 8: t16 := nilCheck t15 : 0   [if ⟨5, false⟩]
    refine wpB_take (i := 8) (v := undef) (get_of_drop rfl) (by kernel_rfl) (by kernel_rfl) (by kernel_rfl) (by kernel_rfl) (fun _ _ _ h => h) (Or.inr ⟨by rfl, rfl⟩) hHeld ?_
    try simp only [Act.put, List.setIfInBounds_toArray, List.set_cons_zero, List.set_cons_succ]
    -- 9: t17 := fieldAddr 100 t16 1 : 0   [if ⟨5, false⟩]
    refine wpB_take (i := 9) (v := undef) (get_of_drop rfl) (by kernel_rfl) (by kernel_rfl) (by kernel_rfl) (by kernel_rfl) (fun _ _ _ h => h) (Or.inr ⟨by rfl, rfl⟩) hHeld ?_
    try simp only [Act.put, List.setIfInBounds_toArray, List.set_cons_zero, List.set_cons_succ]
    -- 10: t18 := fieldAddr 26 t17 0 : 0   [if ⟨5, false⟩]
    refine wpB_take (i := 10) (v := undef) (get_of_drop rfl) (by kernel_rfl) (by kernel_rfl) (by kernel_rfl) (by kernel_rfl) (fun _ _ _ h => h) (Or.inr ⟨by rfl, rfl⟩) hHeld ?_
    try simp only [Act.put, List.setIfInBounds_toArray, List.set_cons_zero, List.set_cons_succ]
    -- 11: t19 := load 3 t18 : 3   [if ⟨5, false⟩]
    refine wpB_take (i := 11) (v := undef) (get_of_drop rfl) (by kernel_rfl) (by kernel_rfl) (by kernel_rfl) (by kernel_rfl) (fun _ _ _ h => h) (Or.inr ⟨by rfl, rfl⟩) hHeld ?_
    try simp only [Act.put, List.setIfInBounds_toArray, List.set_cons_zero, List.set_cons_succ]
    -- 12: t20 := CALL fn48(t14, t19) : 3   [if ⟨5, false⟩]
    refine wpB_take (i := 12) (v := undef) (get_of_drop rfl) (by kernel_rfl) (by kernel_rfl) (by kernel_rfl) (by kernel_rfl) (fun _ _ _ h => h) (Or.inr ⟨by rfl, rfl⟩) hHeld ?_
    try simp only [Act.put, List.setIfInBounds_toArray, List.set_cons_zero, List.set_cons_succ]
    -- 13: t21 := move t0 : 30   [if ⟨5, false⟩]
    refine wpB_take (i := 13) (v := undef) (get_of_drop rfl) (by kernel_rfl) (by kernel_rfl) (by kernel_rfl) (by kernel_rfl) (fun _ _ _ h => h) (Or.inr ⟨by rfl, rfl⟩) hHeld ?_
    try simp only [Act.put, List.setIfInBounds_toArray, List.set_cons_zero, List.set_cons_succ]
    -- 14: t22 := nilCheck t21 : 0   [if ⟨5, false⟩]
    refine wpB_take (i := 14) (v := undef) (get_of_drop rfl) (by kernel_rfl) (by kernel_rfl) (by kernel_rfl) (by kernel_rfl) (fun _ _ _ h => h) (Or.inr ⟨by rfl, rfl⟩) hHeld ?_
    try simp only [Act.put, List.setIfInBounds_toArray, List.set_cons_zero, List.set_cons_succ]
    -- 15: t23 := fieldAddr 100 t22 0 : 0   [if ⟨5, false⟩]
    refine wpB_take (i := 15) (v := undef) (get_of_drop rfl) (by kernel_rfl) (by kernel_rfl) (by kernel_rfl) (by kernel_rfl) (fun _ _ _ h => h) (Or.inr ⟨by rfl, rfl⟩) hHeld ?_
    try simp only [Act.put, List.setIfInBounds_toArray, List.set_cons_zero, List.set_cons_succ]
    -- 16: t24 := fieldAddr 23 t23 1 : 0   [if ⟨5, false⟩]
    refine wpB_take (i := 16) (v := undef) (get_of_drop rfl) (by kernel_rfl) (by kernel_rfl) (by kernel_rfl) (by kernel_rfl) (fun _ _ _ h => h) (Or.inr ⟨by rfl, rfl⟩) hHeld ?_
    try simp only [Act.put, List.setIfInBounds_toArray, List.set_cons_zero, List.set_cons_succ]
    -- 17: t25 := load 3 t24 : 3   [if ⟨5, false⟩]
    refine wpB_take (i := 17) (v := undef) (get_of_drop rfl) (by kernel_rfl) (by kernel_rfl) (by kernel_rfl) (by kernel_rfl) (fun _ _ _ h => h) (Or.inr ⟨by rfl, rfl⟩) hHeld ?_
    try simp only [Act.put, List.setIfInBounds_toArray, List.set_cons_zero, List.set_cons_succ]
    -- 18: t26 := binOp BinOp.neq 3 t20 t25 3 : 4   [if ⟨5, false⟩]
    refine wpB_take (i := 18) (v := undef) (get_of_drop rfl) (by kernel_rfl) (by kernel_rfl) (by kernel_rfl) (by kernel_rfl) (fun _ _ _ h => h) (Or.inr ⟨by rfl, rfl⟩) hHeld ?_
    try simp only [Act.put, List.setIfInBounds_toArray, List.set_cons_zero, List.set_cons_succ]
    -- 19: t27 := pick t13 #true t26 : 4
    refine wpB_take (i := 19) (v := ?_) (get_of_drop rfl) (by kernel_rfl) (by kernel_rfl) (by kernel_rfl) (by kernel_rfl) (fun _ _ _ h => h) (Or.inl ⟨by rfl, ?_⟩) hHeld ?_
    rotate_left
    · (intro w hSw; (try dsimp only at hSw); go_simp <;> with_reducible rfl)
    try simp only [Act.put, List.setIfInBounds_toArray, List.set_cons_zero, List.set_cons_succ]
    -- 20: t28 := move t27 : 4
    refine wpB_take (i := 20) (v := ?_) (get_of_drop rfl) (by kernel_rfl) (by kernel_rfl) (by kernel_rfl) (by kernel_rfl) (fun _ _ _ h => h) (Or.inl ⟨by rfl, ?_⟩) hHeld ?_
    rotate_left
    · (intro w hSw; (try dsimp only at hSw); go_simp <;> with_reducible rfl)
    try simp only [Act.put, List.setIfInBounds_toArray, List.set_cons_zero, List.set_cons_succ]
    -- 21: t29 := move t0 : 30   [if ⟨20, false⟩]
    refine wpB_take (i := 21) (v := undef) (get_of_drop rfl) (by kernel_rfl) (by kernel_rfl) (by kernel_rfl) (by kernel_rfl) (fun _ _ _ h => h) (Or.inr ⟨by rfl, rfl⟩) hHeld ?_
    try simp only [Act.put, List.setIfInBounds_toArray, List.set_cons_zero, List.set_cons_succ]
    -- 22: t30 := nilCheck t29 : 0   [if ⟨20, false⟩]
    refine wpB_take (i := 22) (v := undef) (get_of_drop rfl) (by kernel_rfl) (by kernel_rfl) (by kernel_rfl) (by kernel_rfl) (fun _ _ _ h => h) (Or.inr ⟨by rfl, rfl⟩) hHeld ?_
    try simp only [Act.put, List.setIfInBounds_toArray, List.set_cons_zero, List.set_cons_succ]
    -- 23: t31 := fieldAddr 100 t30 5 : 0   [if ⟨20, false⟩]
    refine wpB_take (i := 23) (v := undef) (get_of_drop rfl) (by kernel_rfl) (by kernel_rfl) (by kernel_rfl) (by kernel_rfl) (fun _ _ _ h => h) (Or.inr ⟨by rfl, rfl⟩) hHeld ?_
    try simp only [Act.put, List.setIfInBounds_toArray, List.set_cons_zero, List.set_cons_succ]
    -- 24: t32 := load 98 t31 : 98   [if ⟨20, false⟩]
    refine wpB_take (i := 24) (v := undef) (get_of_drop rfl) (by kernel_rfl) (by kernel_rfl) (by kernel_rfl) (by kernel_rfl) (fun _ _ _ h => h) (Or.inr ⟨by rfl, rfl⟩) hHeld ?_
    try simp only [Act.put, List.setIfInBounds_toArray, List.set_cons_zero, List.set_cons_succ]
    -- 25: t33 := len(t32) types [98] : 3   [if ⟨20, false⟩]
    refine wpB_take (i := 25) (v := undef) (get_of_drop rfl) (by kernel_rfl) (by kernel_rfl) (by kernel_rfl) (by kernel_rfl) (fun _ _ _ h => h) (Or.inr ⟨by rfl, rfl⟩) hHeld ?_
    try simp only [Act.put, List.setIfInBounds_toArray, List.set_cons_zero, List.set_cons_succ]
    -- 26: t34 := binOp BinOp.add 3 t33 #i64:1 3 : 3   [if ⟨20, false⟩]
    refine wpB_take (i := 26) (v := undef) (get_of_drop rfl) (by kernel_rfl) (by kernel_rfl) (by kernel_rfl) (by kernel_rfl) (fun _ _ _ h => h) (Or.inr ⟨by rfl, rfl⟩) hHeld ?_
    try simp only [Act.put, List.setIfInBounds_toArray, List.set_cons_zero, List.set_cons_succ]
    -- 27: t35 := move t0 : 30   [if ⟨20, false⟩]
    refine wpB_take (i := 27) (v := undef) (get_of_drop rfl) (by kernel_rfl) (by kernel_rfl) (by kernel_rfl) (by kernel_rfl) (fun _ _ _ h => h) (Or.inr ⟨by rfl, rfl⟩) hHeld ?_
    try simp only [Act.put, List.setIfInBounds_toArray, List.set_cons_zero, List.set_cons_succ]
    -- 28: t36 := CALL fn88(t35) : 3   [if ⟨20, false⟩]
    refine wpB_take (i := 28) (v := undef) (get_of_drop rfl) (by kernel_rfl) (by kernel_rfl) (by kernel_rfl) (by kernel_rfl) (fun _ _ _ h => h) (Or.inr ⟨by rfl, rfl⟩) hHeld ?_
    try simp only [Act.put, List.setIfInBounds_toArray, List.set_cons_zero, List.set_cons_succ]
    -- 29: t37 := binOp BinOp.lss 3 t34 t36 3 : 4   [if ⟨20, false⟩]
    refine wpB_take (i := 29) (v := undef) (get_of_drop rfl) (by kernel_rfl) (by kernel_rfl) (by kernel_rfl) (by kernel_rfl) (fun _ _ _ h => h) (Or.inr ⟨by rfl, rfl⟩) hHeld ?_
    try simp only [Act.put, List.setIfInBounds_toArray, List.set_cons_zero, List.set_cons_succ]
    -- 30: t38 := pick t28 #true t37 : 4
    refine wpB_take (i := 30) (v := ?_) (get_of_drop rfl) (by kernel_rfl) (by kernel_rfl) (by kernel_rfl) (by kernel_rfl) (fun _ _ _ h => h) (Or.inl ⟨by rfl, ?_⟩) hHeld ?_
    rotate_left
    · (intro w hSw; (try dsimp only at hSw); go_simp <;> with_reducible rfl)
    try simp only [Act.put, List.setIfInBounds_toArray, List.set_cons_zero, List.set_cons_succ]
    refine wpB_done (by kernel_rfl) ?_ _
    go_wp2_with fail
    go_end0
    have e1 : decideR r = r := by unfold decideR; rw [if_neg HE.out]
    rw [e1]
    exact ⟨A, n, c, O, rfl, H.out.far ((Chg.refl (fun _ => False) w).drew), fun _ h => .inl h, ((Chg.refl (fun _ => False) w).drew).mono (fun _ h _ => h.elim)⟩
  rw [hch] at U_8
  have HCHG := hid hch
  clear hch
  by_cases hpr : primR r r.s.view = r.id
  case neg =>
    have hpr2 : (primR r r.s.view != r.id) = true := by simp [hpr]
    have HE := hid (show ¬ (r.ch = true ∧ primR r r.s.view = r.id ∧ halfR r ≤ (r.chgs.length : Int) + 1) from fun h => hpr h.2.1)
    clear hpr
    refine wpB_start (fun wx : World => Chg (fun _ => False) w wx) (by kernel_rfl) ?_
    have hHeld : (fun wx : World => Chg (fun _ => False) w wx) _ := (Chg.refl (fun _ => False) w).drew
    -- 0: t8 := move t0 : 30
    refine wpB_take (i := 0) (v := ?_) (get_of_drop rfl) (by kernel_rfl) (by kernel_rfl) (by kernel_rfl) (by kernel_rfl) (fun _ _ _ h => h) (Or.inl ⟨by rfl, ?_⟩) hHeld ?_
    rotate_left
    · (intro w hSw; (try dsimp only at hSw); go_simp <;> with_reducible rfl)
    try simp only [Act.put, List.setIfInBounds_toArray, List.set_cons_zero, List.set_cons_succ]
    -- 1: t9 := nilCheck t8 : 0
    refine wpB_take (i := 1) (v := ?_) (get_of_drop rfl) (by kernel_rfl) (by kernel_rfl) (by kernel_rfl) (by kernel_rfl) (fun _ _ _ h => h) (Or.inl ⟨by rfl, ?_⟩) hHeld ?_
    rotate_left
    · (intro w hSw; (try dsimp only at hSw); go_simp <;> with_reducible rfl)
    try simp only [Act.put, List.setIfInBounds_toArray, List.set_cons_zero, List.set_cons_succ]
    -- 2: t10 := fieldAddr 100 t9 2 : 0
    refine wpB_take (i := 2) (v := ?_) (get_of_drop rfl) (by kernel_rfl) (by kernel_rfl) (by kernel_rfl) (by kernel_rfl) (fun _ _ _ h => h) (Or.inl ⟨by rfl, ?_⟩) hHeld ?_
    rotate_left
    · (intro w hSw; (try dsimp only at hSw); go_simp <;> with_reducible rfl)
    try simp only [Act.put, List.setIfInBounds_toArray, List.set_cons_zero, List.set_cons_succ]
    -- 3: t11 := load 4 t10 : 4
    refine wpB_take (i := 3) (v := ?_) (get_of_drop rfl) (by kernel_rfl) (by kernel_rfl) (by kernel_rfl) (by kernel_rfl) (fun _ _ _ h => h) (Or.inl ⟨by rfl, ?_⟩) hHeld ?_
    rotate_left
    · (intro w hSw; (try dsimp only at hSw); go_simp <;> with_reducible rfl)
    try simp only [Act.put, List.setIfInBounds_toArray, List.set_cons_zero, List.set_cons_succ]
    -- 4: t12 := unOp UnOp.not 4 t11 : 4
    refine wpB_take (i := 4) (v := ?_) (get_of_drop rfl) (by kernel_rfl) (by kernel_rfl) (by kernel_rfl) (by kernel_rfl) (fun _ _ _ h => h) (Or.inl ⟨by rfl, ?_⟩) hHeld ?_
    rotate_left
    · (intro w hSw; (try dsimp only at hSw); go_simp <;> with_reducible rfl)
    try simp only [Act.put, List.setIfInBounds_toArray, List.set_cons_zero, List.set_cons_succ]
    -- 5: t13 := move t12 : 4
    refine wpB_take (i := 5) (v := ?_) (get_of_drop rfl) (by kernel_rfl) (by kernel_rfl) (by kernel_rfl) (by kernel_rfl) (fun _ _ _ h => h) (Or.inl ⟨by rfl, ?_⟩) hHeld ?_
    rotate_left
    · (intro w hSw; (try dsimp only at hSw); go_simp <;> with_reducible rfl)
    try simp only [Act.put, List.setIfInBounds_toArray, List.set_cons_zero, List.set_cons_succ]
    -- 6: t14 := move t0 : 30   [if ⟨5, false⟩]
    refine wpB_take (i := 6) (v := ?_) (get_of_drop rfl) (by kernel_rfl) (by kernel_rfl) (by kernel_rfl) (by kernel_rfl) (fun _ _ _ h => h) (Or.inl ⟨by rfl, ?_⟩) hHeld ?_
    rotate_left
    · (intro w hSw; (try dsimp only at hSw); go_simp <;> with_reducible rfl)
    try simp only [Act.put, List.setIfInBounds_toArray, List.set_cons_zero, List.set_cons_succ]
    -- 7: t15 := move t0 : 30   [if ⟨5, false⟩]
    refine wpB_take (i := 7) (v := ?_) (get_of_drop rfl) (by kernel_rfl) (by kernel_rfl) (by kernel_rfl) (by kernel_rfl) (fun _ _ _ h => h) (Or.inl ⟨by rfl, ?_⟩) hHeld ?_
    rotate_left
    · (intro w hSw; (try dsimp only at hSw); go_simp <;> with_reducible rfl)
    try simp only [Act.put, List.setIfInBounds_toArray, List.set_cons_zero, List.set_cons_succ]
    -- 8: t16 := nilCheck t15 : 0   [if ⟨5, false⟩]
    refine wpB_take (i := 8) (v := ?_) (get_of_drop rfl) (by kernel_rfl) (by kernel_rfl) (by kernel_rfl) (by kernel_rfl) (fun _ _ _ h => h) (Or.inl ⟨by rfl, ?_⟩) hHeld ?_
    rotate_left
    · (intro w hSw; (try dsimp only at hSw); go_simp <;> with_reducible rfl)
    try simp only [Act.put, List.setIfInBounds_toArray, List.set_cons_zero, List.set_cons_succ]
    -- 9: t17 := fieldAddr 100 t16 1 : 0   [if ⟨5, false⟩]
    refine wpB_take (i := 9) (v := ?_) (get_of_drop rfl) (by kernel_rfl) (by kernel_rfl) (by kernel_rfl) (by kernel_rfl) (fun _ _ _ h => h) (Or.inl ⟨by rfl, ?_⟩) hHeld ?_
    rotate_left
    · (intro w hSw; (try dsimp only at hSw); go_simp <;> with_reducible rfl)
    try simp only [Act.put, List.setIfInBounds_toArray, List.set_cons_zero, List.set_cons_succ]
    -- 10: t18 := fieldAddr 26 t17 0 : 0   [if ⟨5, false⟩]
    refine wpB_take (i := 10) (v := ?_) (get_of_drop rfl) (by kernel_rfl) (by kernel_rfl) (by kernel_rfl) (by kernel_rfl) (fun _ _ _ h => h) (Or.inl ⟨by rfl, ?_⟩) hHeld ?_
    rotate_left
    · (intro w hSw; (try dsimp only at hSw); go_simp <;> with_reducible rfl)
    try simp only [Act.put, List.setIfInBounds_toArray, List.set_cons_zero, List.set_cons_succ]
    -- 11: t19 := load 3 t18 : 3   [if ⟨5, false⟩]
    refine wpB_take (i := 11) (v := ?_) (get_of_drop rfl) (by kernel_rfl) (by kernel_rfl) (by kernel_rfl) (by kernel_rfl) (fun _ _ _ h => h) (Or.inl ⟨by rfl, ?_⟩) hHeld ?_
    rotate_left
    · (intro w hSw; (try dsimp only at hSw); go_simp <;> with_reducible rfl)
    try simp only [Act.put, List.setIfInBounds_toArray, List.set_cons_zero, List.set_cons_succ]
    -- 13: t21 := move t0 : 30   [if ⟨5, false⟩]
    refine wpB_take (i := 13) (v := ?_) (get_of_drop rfl) (by kernel_rfl) (by kernel_rfl) (by kernel_rfl) (by kernel_rfl) (fun _ _ _ h => h) (Or.inl ⟨by rfl, ?_⟩) hHeld ?_
    rotate_left
    · (intro w hSw; (try dsimp only at hSw); go_simp <;> with_reducible rfl)
    try simp only [Act.put, List.setIfInBounds_toArray, List.set_cons_zero, List.set_cons_succ]
    -- 14: t22 := nilCheck t21 : 0   [if ⟨5, false⟩]
    refine wpB_take (i := 14) (v := ?_) (get_of_drop rfl) (by kernel_rfl) (by kernel_rfl) (by kernel_rfl) (by kernel_rfl) (fun _ _ _ h => h) (Or.inl ⟨by rfl, ?_⟩) hHeld ?_
    rotate_left
    · (intro w hSw; (try dsimp only at hSw); go_simp <;> with_reducible rfl)
    try simp only [Act.put, List.setIfInBounds_toArray, List.set_cons_zero, List.set_cons_succ]
    -- 15: t23 := fieldAddr 100 t22 0 : 0   [if ⟨5, false⟩]
    refine wpB_take (i := 15) (v := ?_) (get_of_drop rfl) (by kernel_rfl) (by kernel_rfl) (by kernel_rfl) (by kernel_rfl) (fun _ _ _ h => h) (Or.inl ⟨by rfl, ?_⟩) hHeld ?_
    rotate_left
    · (intro w hSw; (try dsimp only at hSw); go_simp <;> with_reducible rfl)
    try simp only [Act.put, List.setIfInBounds_toArray, List.set_cons_zero, List.set_cons_succ]
    -- 16: t24 := fieldAddr 23 t23 1 : 0   [if ⟨5, false⟩]
    refine wpB_take (i := 16) (v := ?_) (get_of_drop rfl) (by kernel_rfl) (by kernel_rfl) (by kernel_rfl) (by kernel_rfl) (fun _ _ _ h => h) (Or.inl ⟨by rfl, ?_⟩) hHeld ?_
    rotate_left
    · (intro w hSw; (try dsimp only at hSw); go_simp <;> with_reducible rfl)
    try simp only [Act.put, List.setIfInBounds_toArray, List.set_cons_zero, List.set_cons_succ]
    -- 17: t25 := load 3 t24 : 3   [if ⟨5, false⟩]
    refine wpB_take (i := 17) (v := ?_) (get_of_drop rfl) (by kernel_rfl) (by kernel_rfl) (by kernel_rfl) (by kernel_rfl) (fun _ _ _ h => h) (Or.inl ⟨by rfl, ?_⟩) hHeld ?_
    rotate_left
    · (intro w hSw; (try dsimp only at hSw); go_simp <;> with_reducible rfl)
    try simp only [Act.put, List.setIfInBounds_toArray, List.set_cons_zero, List.set_cons_succ]
    -- 12: t20 := CALL fn48(t14, t19) : 3   [if ⟨5, false⟩]
    refine wpB_act (i := 12) (by kernel_rfl) (get_of_drop rfl) (fun K hK => ?_)
    go_simp
    refine (prim_any (H.out.far hHeld) HOK.out.cfg.1 HV.out).mono ?_
    rintro e' wy ⟨rfl, rfl⟩
    refine hK.out _ _ ?_ (fun hHeld2 => ?_)
    · first | assumption | exact Chg.alloc hHeld _
    clear hHeld hK K
    have hHeld := hHeld2
    clear hHeld2
    try simp only [Act.put, List.setIfInBounds_toArray, List.set_cons_zero, List.set_cons_succ]
    -- 18: t26 := binOp BinOp.neq 3 t20 t25 3 : 4   [if ⟨5, false⟩]
    refine wpB_take (i := 18) (v := ?_) (get_of_drop rfl) (by kernel_rfl) (by kernel_rfl) (by kernel_rfl) (by kernel_rfl) (fun _ _ _ h => h) (Or.inl ⟨by rfl, ?_⟩) hHeld ?_
    rotate_left
    · (intro w hSw; (try dsimp only at hSw); go_simp <;> with_reducible rfl)
    try simp only [Act.put, List.setIfInBounds_toArray, List.set_cons_zero, List.set_cons_succ]
    -- 19: t27 := pick t13 #true t26 : 4
    refine wpB_take (i := 19) (v := ?_) (get_of_drop rfl) (by kernel_rfl) (by kernel_rfl) (by kernel_rfl) (by kernel_rfl) (fun _ _ _ h => h) (Or.inl ⟨by rfl, ?_⟩) hHeld ?_
    rotate_left
    · (intro w hSw; (try dsimp only at hSw); go_simp <;> with_reducible rfl)
    try simp only [Act.put, List.setIfInBounds_toArray, List.set_cons_zero, List.set_cons_succ]
    -- 20: t28 := move t27 : 4
    refine wpB_take (i := 20) (v := ?_) (get_of_drop rfl) (by kernel_rfl) (by kernel_rfl) (by kernel_rfl) (by kernel_rfl) (fun _ _ _ h => h) (Or.inl ⟨by rfl, ?_⟩) hHeld ?_
    rotate_left
    · (intro w hSw; (try dsimp only at hSw); go_simp <;> with_reducible rfl)
    try simp only [Act.put, List.setIfInBounds_toArray, List.set_cons_zero, List.set_cons_succ]
    -- 21: t29 := move t0 : 30   [if ⟨20, false⟩]
    refine wpB_take (i := 21) (v := undef) (get_of_drop rfl) (by kernel_rfl) (by kernel_rfl) (by kernel_rfl) (by kernel_rfl) (fun _ _ _ h => h) (Or.inr ⟨by rfl, rfl⟩) hHeld ?_
    try simp only [Act.put, List.setIfInBounds_toArray, List.set_cons_zero, List.set_cons_succ]
    -- 22: t30 := nilCheck t29 : 0   [if ⟨20, false⟩]
    refine wpB_take (i := 22) (v := undef) (get_of_drop rfl) (by kernel_rfl) (by kernel_rfl) (by kernel_rfl) (by kernel_rfl) (fun _ _ _ h => h) (Or.inr ⟨by rfl, rfl⟩) hHeld ?_
    try simp only [Act.put, List.setIfInBounds_toArray, List.set_cons_zero, List.set_cons_succ]
    -- 23: t31 := fieldAddr 100 t30 5 : 0   [if ⟨20, false⟩]
    refine wpB_take (i := 23) (v := undef) (get_of_drop rfl) (by kernel_rfl) (by kernel_rfl) (by kernel_rfl) (by kernel_rfl) (fun _ _ _ h => h) (Or.inr ⟨by rfl, rfl⟩) hHeld ?_
    try simp only [Act.put, List.setIfInBounds_toArray, List.set_cons_zero, List.set_cons_succ]
    -- 24: t32 := load 98 t31 : 98   [if ⟨20, false⟩]
    refine wpB_take (i := 24) (v := undef) (get_of_drop rfl) (by kernel_rfl) (by kernel_rfl) (by kernel_rfl) (by kernel_rfl) (fun _ _ _ h => h) (Or.inr ⟨by rfl, rfl⟩) hHeld ?_
    try simp only [Act.put, List.setIfInBounds_toArray, List.set_cons_zero, List.set_cons_succ]
    -- 25: t33 := len(t32) types [98] : 3   [if ⟨20, false⟩]
    refine wpB_take (i := 25) (v := undef) (get_of_drop rfl) (by kernel_rfl) (by kernel_rfl) (by kernel_rfl) (by kernel_rfl) (fun _ _ _ h => h) (Or.inr ⟨by rfl, rfl⟩) hHeld ?_
    try simp only [Act.put, List.setIfInBounds_toArray, List.set_cons_zero, List.set_cons_succ]
    -- 26: t34 := binOp BinOp.add 3 t33 #i64:1 3 : 3   [if ⟨20, false⟩]
    refine wpB_take (i := 26) (v := undef) (get_of_drop rfl) (by kernel_rfl) (by kernel_rfl) (by kernel_rfl) (by kernel_rfl) (fun _ _ _ h => h) (Or.inr ⟨by rfl, rfl⟩) hHeld ?_
    try simp only [Act.put, List.setIfInBounds_toArray, List.set_cons_zero, List.set_cons_succ]
    -- 27: t35 := move t0 : 30   [if ⟨20, false⟩]
    refine wpB_take (i := 27) (v := undef) (get_of_drop rfl) (by kernel_rfl) (by kernel_rfl) (by kernel_rfl) (by kernel_rfl) (fun _ _ _ h => h) (Or.inr ⟨by rfl, rfl⟩) hHeld ?_
    try simp only [Act.put, List.setIfInBounds_toArray, List.set_cons_zero, List.set_cons_succ]
    -- 28: t36 := CALL fn88(t35) : 3   [if ⟨20, false⟩]
    refine wpB_take (i := 28) (v := undef) (get_of_drop rfl) (by kernel_rfl) (by kernel_rfl) (by kernel_rfl) (by kernel_rfl) (fun _ _ _ h => h) (Or.inr ⟨by rfl, rfl⟩) hHeld ?_
    try simp only [Act.put, List.setIfInBounds_toArray, List.set_cons_zero, List.set_cons_succ]
    -- 29: t37 := binOp BinOp.lss 3 t34 t36 3 : 4   [if ⟨20, false⟩]
    refine wpB_take (i := 29) (v := undef) (get_of_drop rfl) (by kernel_rfl) (by kernel_rfl) (by kernel_rfl) (by kernel_rfl) (fun _ _ _ h => h) (Or.inr ⟨by rfl, rfl⟩) hHeld ?_
    try simp only [Act.put, List.setIfInBounds_toArray, List.set_cons_zero, List.set_cons_succ]
    -- 30: t38 := pick t28 #true t37 : 4
    refine wpB_take (i := 30) (v := ?_) (get_of_drop rfl) (by kernel_rfl) (by kernel_rfl) (by kernel_rfl) (by kernel_rfl) (fun _ _ _ h => h) (Or.inl ⟨by rfl, ?_⟩) hHeld ?_
    rotate_left
    · (intro w hSw; (try dsimp only at hSw); go_simp <;> with_reducible rfl)
    try simp only [Act.put, List.setIfInBounds_toArray, List.set_cons_zero, List.set_cons_succ]
    refine wpB_done (by kernel_rfl) ?_ _
    go_wp2_with fail
    go_end0
    have e1 : decideR r = r := by unfold decideR; rw [if_neg HE.out]
    rw [e1]
    exact ⟨A, n, c, O, rfl, H.out.far ((Chg.refl (fun _ => False) w).drew), fun _ h => .inl h, ((Chg.refl (fun _ => False) w).drew).mono (fun _ h _ => h.elim)⟩
  have hpr2 : (primR r r.s.view != r.id) = false := by simp [hpr]
  have HPR := hid hpr
  clear hpr
  by_cases hha : halfR r ≤ (cl : Int) + 1
  case neg =>
    have hha2 : (cl : Int) + 1 < halfR r := by omega
    have HE := hid (show ¬ (r.ch = true ∧ primR r r.s.view = r.id ∧ halfR r ≤ (r.chgs.length : Int) + 1) from fun h => hha (by rw [HCL.out]; exact h.2.2))
    clear hha
    refine wpB_start (fun wx : World => Chg (fun _ => False) w wx) (by kernel_rfl) ?_
    have hHeld : (fun wx : World => Chg (fun _ => False) w wx) _ := (Chg.refl (fun _ => False) w).drew
    -- 0: t8 := move t0 : 30
    refine wpB_take (i := 0) (v := ?_) (get_of_drop rfl) (by kernel_rfl) (by kernel_rfl) (by kernel_rfl) (by kernel_rfl) (fun _ _ _ h => h) (Or.inl ⟨by rfl, ?_⟩) hHeld ?_
    rotate_left
    · (intro w hSw; (try dsimp only at hSw); go_simp <;> with_reducible rfl)
    try simp only [Act.put, List.setIfInBounds_toArray, List.set_cons_zero, List.set_cons_succ]
    -- 1: t9 := nilCheck t8 : 0
    refine wpB_take (i := 1) (v := ?_) (get_of_drop rfl) (by kernel_rfl) (by kernel_rfl) (by kernel_rfl) (by kernel_rfl) (fun _ _ _ h => h) (Or.inl ⟨by rfl, ?_⟩) hHeld ?_
    rotate_left
    · (intro w hSw; (try dsimp only at hSw); go_simp <;> with_reducible rfl)
    try simp only [Act.put, List.setIfInBounds_toArray, List.set_cons_zero, List.set_cons_succ]
    -- 2: t10 := fieldAddr 100 t9 2 : 0
    refine wpB_take (i := 2) (v := ?_) (get_of_drop rfl) (by kernel_rfl) (by kernel_rfl) (by kernel_rfl) (by kernel_rfl) (fun _ _ _ h => h) (Or.inl ⟨by rfl, ?_⟩) hHeld ?_
    rotate_left
    · (intro w hSw; (try dsimp only at hSw); go_simp <;> with_reducible rfl)
    try simp only [Act.put, List.setIfInBounds_toArray, List.set_cons_zero, List.set_cons_succ]
    -- 3: t11 := load 4 t10 : 4
    refine wpB_take (i := 3) (v := ?_) (get_of_drop rfl) (by kernel_rfl) (by kernel_rfl) (by kernel_rfl) (by kernel_rfl) (fun _ _ _ h => h) (Or.inl ⟨by rfl, ?_⟩) hHeld ?_
    rotate_left
    · (intro w hSw; (try dsimp only at hSw); go_simp <;> with_reducible rfl)
    try simp only [Act.put, List.setIfInBounds_toArray, List.set_cons_zero, List.set_cons_succ]
    -- 4: t12 := unOp UnOp.not 4 t11 : 4
    refine wpB_take (i := 4) (v := ?_) (get_of_drop rfl) (by kernel_rfl) (by kernel_rfl) (by kernel_rfl) (by kernel_rfl) (fun _ _ _ h => h) (Or.inl ⟨by rfl, ?_⟩) hHeld ?_
    rotate_left
    · (intro w hSw; (try dsimp only at hSw); go_simp <;> with_reducible rfl)
    try simp only [Act.put, List.setIfInBounds_toArray, List.set_cons_zero, List.set_cons_succ]
    -- 5: t13 := move t12 : 4
    refine wpB_take (i := 5) (v := ?_) (get_of_drop rfl) (by kernel_rfl) (by kernel_rfl) (by kernel_rfl) (by kernel_rfl) (fun _ _ _ h => h) (Or.inl ⟨by rfl, ?_⟩) hHeld ?_
    rotate_left
    · (intro w hSw; (try dsimp only at hSw); go_simp <;> with_reducible rfl)
    try simp only [Act.put, List.setIfInBounds_toArray, List.set_cons_zero, List.set_cons_succ]
    -- 6: t14 := move t0 : 30   [if ⟨5, false⟩]
    refine wpB_take (i := 6) (v := ?_) (get_of_drop rfl) (by kernel_rfl) (by kernel_rfl) (by kernel_rfl) (by kernel_rfl) (fun _ _ _ h => h) (Or.inl ⟨by rfl, ?_⟩) hHeld ?_
    rotate_left
    · (intro w hSw; (try dsimp only at hSw); go_simp <;> with_reducible rfl)
    try simp only [Act.put, List.setIfInBounds_toArray, List.set_cons_zero, List.set_cons_succ]
    -- 7: t15 := move t0 : 30   [if ⟨5, false⟩]
    refine wpB_take (i := 7) (v := ?_) (get_of_drop rfl) (by kernel_rfl) (by kernel_rfl) (by kernel_rfl) (by kernel_rfl) (fun _ _ _ h => h) (Or.inl ⟨by rfl, ?_⟩) hHeld ?_
    rotate_left
    · (intro w hSw; (try dsimp only at hSw); go_simp <;> with_reducible rfl)
    try simp only [Act.put, List.setIfInBounds_toArray, List.set_cons_zero, List.set_cons_succ]
    -- 8: t16 := nilCheck t15 : 0   [if ⟨5, false⟩]
    refine wpB_take (i := 8) (v := ?_) (get_of_drop rfl) (by kernel_rfl) (by kernel_rfl) (by kernel_rfl) (by kernel_rfl) (fun _ _ _ h => h) (Or.inl ⟨by rfl, ?_⟩) hHeld ?_
    rotate_left
    · (intro w hSw; (try dsimp only at hSw); go_simp <;> with_reducible rfl)
    try simp only [Act.put, List.setIfInBounds_toArray, List.set_cons_zero, List.set_cons_succ]
    -- 9: t17 := fieldAddr 100 t16 1 : 0   [if ⟨5, false⟩]
    refine wpB_take (i := 9) (v := ?_) (get_of_drop rfl) (by kernel_rfl) (by kernel_rfl) (by kernel_rfl) (by kernel_rfl) (fun _ _ _ h => h) (Or.inl ⟨by rfl, ?_⟩) hHeld ?_
    rotate_left
    · (intro w hSw; (try dsimp only at hSw); go_simp <;> with_reducible rfl)
    try simp only [Act.put, List.setIfInBounds_toArray, List.set_cons_zero, List.set_cons_succ]
    -- 10: t18 := fieldAddr 26 t17 0 : 0   [if ⟨5, false⟩]
    refine wpB_take (i := 10) (v := ?_) (get_of_drop rfl) (by kernel_rfl) (by kernel_rfl) (by kernel_rfl) (by kernel_rfl) (fun _ _ _ h => h) (Or.inl ⟨by rfl, ?_⟩) hHeld ?_
    rotate_left
    · (intro w hSw; (try dsimp only at hSw); go_simp <;> with_reducible rfl)
    try simp only [Act.put, List.setIfInBounds_toArray, List.set_cons_zero, List.set_cons_succ]
    -- 11: t19 := load 3 t18 : 3   [if ⟨5, false⟩]
    refine wpB_take (i := 11) (v := ?_) (get_of_drop rfl) (by kernel_rfl) (by kernel_rfl) (by kernel_rfl) (by kernel_rfl) (fun _ _ _ h => h) (Or.inl ⟨by rfl, ?_⟩) hHeld ?_
    rotate_left
    · (intro w hSw; (try dsimp only at hSw); go_simp <;> with_reducible rfl)
    try simp only [Act.put, List.setIfInBounds_toArray, List.set_cons_zero, List.set_cons_succ]
    -- 13: t21 := move t0 : 30   [if ⟨5, false⟩]
    refine wpB_take (i := 13) (v := ?_) (get_of_drop rfl) (by kernel_rfl) (by kernel_rfl) (by kernel_rfl) (by kernel_rfl) (fun _ _ _ h => h) (Or.inl ⟨by rfl, ?_⟩) hHeld ?_
    rotate_left
    · (intro w hSw; (try dsimp only at hSw); go_simp <;> with_reducible rfl)
    try simp only [Act.put, List.setIfInBounds_toArray, List.set_cons_zero, List.set_cons_succ]
    -- 14: t22 := nilCheck t21 : 0   [if ⟨5, false⟩]
    refine wpB_take (i := 14) (v := ?_) (get_of_drop rfl) (by kernel_rfl) (by kernel_rfl) (by kernel_rfl) (by kernel_rfl) (fun _ _ _ h => h) (Or.inl ⟨by rfl, ?_⟩) hHeld ?_
    rotate_left
    · (intro w hSw; (try dsimp only at hSw); go_simp <;> with_reducible rfl)
    try simp only [Act.put, List.setIfInBounds_toArray, List.set_cons_zero, List.set_cons_succ]
    -- 15: t23 := fieldAddr 100 t22 0 : 0   [if ⟨5, false⟩]
    refine wpB_take (i := 15) (v := ?_) (get_of_drop rfl) (by kernel_rfl) (by kernel_rfl) (by kernel_rfl) (by kernel_rfl) (fun _ _ _ h => h) (Or.inl ⟨by rfl, ?_⟩) hHeld ?_
    rotate_left
    · (intro w hSw; (try dsimp only at hSw); go_simp <;> with_reducible rfl)
    try simp only [Act.put, List.setIfInBounds_toArray, List.set_cons_zero, List.set_cons_succ]
    -- 16: t24 := fieldAddr 23 t23 1 : 0   [if ⟨5, false⟩]
    refine wpB_take (i := 16) (v := ?_) (get_of_drop rfl) (by kernel_rfl) (by kernel_rfl) (by kernel_rfl) (by kernel_rfl) (fun _ _ _ h => h) (Or.inl ⟨by rfl, ?_⟩) hHeld ?_
    rotate_left
    · (intro w hSw; (try dsimp only at hSw); go_simp <;> with_reducible rfl)
    try simp only [Act.put, List.setIfInBounds_toArray, List.set_cons_zero, List.set_cons_succ]
    -- 17: t25 := load 3 t24 : 3   [if ⟨5, false⟩]
    refine wpB_take (i := 17) (v := ?_) (get_of_drop rfl) (by kernel_rfl) (by kernel_rfl) (by kernel_rfl) (by kernel_rfl) (fun _ _ _ h => h) (Or.inl ⟨by rfl, ?_⟩) hHeld ?_
    rotate_left
    · (intro w hSw; (try dsimp only at hSw); go_simp <;> with_reducible rfl)
    try simp only [Act.put, List.setIfInBounds_toArray, List.set_cons_zero, List.set_cons_succ]
    -- 12: t20 := CALL fn48(t14, t19) : 3   [if ⟨5, false⟩]
    refine wpB_act (i := 12) (by kernel_rfl) (get_of_drop rfl) (fun K hK => ?_)
    go_simp
    refine (prim_any (H.out.far hHeld) HOK.out.cfg.1 HV.out).mono ?_
    rintro e' wy ⟨rfl, rfl⟩
    refine hK.out _ _ ?_ (fun hHeld2 => ?_)
    · first | assumption | exact Chg.alloc hHeld _
    clear hHeld hK K
    have hHeld := hHeld2
    clear hHeld2
    try simp only [Act.put, List.setIfInBounds_toArray, List.set_cons_zero, List.set_cons_succ]
    -- 18: t26 := binOp BinOp.neq 3 t20 t25 3 : 4   [if ⟨5, false⟩]
    refine wpB_take (i := 18) (v := ?_) (get_of_drop rfl) (by kernel_rfl) (by kernel_rfl) (by kernel_rfl) (by kernel_rfl) (fun _ _ _ h => h) (Or.inl ⟨by rfl, ?_⟩) hHeld ?_
    rotate_left
    · (intro w hSw; (try dsimp only at hSw); go_simp <;> with_reducible rfl)
    try simp only [Act.put, List.setIfInBounds_toArray, List.set_cons_zero, List.set_cons_succ]
    -- 19: t27 := pick t13 #true t26 : 4
    refine wpB_take (i := 19) (v := ?_) (get_of_drop rfl) (by kernel_rfl) (by kernel_rfl) (by kernel_rfl) (by kernel_rfl) (fun _ _ _ h => h) (Or.inl ⟨by rfl, ?_⟩) hHeld ?_
    rotate_left
    · (intro w hSw; (try dsimp only at hSw); go_simp <;> with_reducible rfl)
    try simp only [Act.put, List.setIfInBounds_toArray, List.set_cons_zero, List.set_cons_succ]
    -- 20: t28 := move t27 : 4
    refine wpB_take (i := 20) (v := ?_) (get_of_drop rfl) (by kernel_rfl) (by kernel_rfl) (by kernel_rfl) (by kernel_rfl) (fun _ _ _ h => h) (Or.inl ⟨by rfl, ?_⟩) hHeld ?_
    rotate_left
    · (intro w hSw; (try dsimp only at hSw); go_simp <;> with_reducible rfl)
    try simp only [Act.put, List.setIfInBounds_toArray, List.set_cons_zero, List.set_cons_succ]
    -- 21: t29 := move t0 : 30   [if ⟨20, false⟩]
    refine wpB_take (i := 21) (v := ?_) (get_of_drop rfl) (by kernel_rfl) (by kernel_rfl) (by kernel_rfl) (by kernel_rfl) (fun _ _ _ h => h) (Or.inl ⟨by rfl, ?_⟩) hHeld ?_
    rotate_left
    · (intro w hSw; (try dsimp only at hSw); go_simp <;> with_reducible rfl)
    try simp only [Act.put, List.setIfInBounds_toArray, List.set_cons_zero, List.set_cons_succ]
    -- 22: t30 := nilCheck t29 : 0   [if ⟨20, false⟩]
    refine wpB_take (i := 22) (v := ?_) (get_of_drop rfl) (by kernel_rfl) (by kernel_rfl) (by kernel_rfl) (by kernel_rfl) (fun _ _ _ h => h) (Or.inl ⟨by rfl, ?_⟩) hHeld ?_
    rotate_left
    · (intro w hSw; (try dsimp only at hSw); go_simp <;> with_reducible rfl)
    try simp only [Act.put, List.setIfInBounds_toArray, List.set_cons_zero, List.set_cons_succ]
    -- 23: t31 := fieldAddr 100 t30 5 : 0   [if ⟨20, false⟩]
    refine wpB_take (i := 23) (v := ?_) (get_of_drop rfl) (by kernel_rfl) (by kernel_rfl) (by kernel_rfl) (by kernel_rfl) (fun _ _ _ h => h) (Or.inl ⟨by rfl, ?_⟩) hHeld ?_
    rotate_left
    · (intro w hSw; (try dsimp only at hSw); go_simp <;> with_reducible rfl)
    try simp only [Act.put, List.setIfInBounds_toArray, List.set_cons_zero, List.set_cons_succ]
    -- 24: t32 := load 98 t31 : 98   [if ⟨20, false⟩]
    refine wpB_take (i := 24) (v := ?_) (get_of_drop rfl) (by kernel_rfl) (by kernel_rfl) (by kernel_rfl) (by kernel_rfl) (fun _ _ _ h => h) (Or.inl ⟨by rfl, ?_⟩) hHeld ?_
    rotate_left
    · (intro w hSw; (try dsimp only at hSw); go_simp <;> with_reducible rfl)
    try simp only [Act.put, List.setIfInBounds_toArray, List.set_cons_zero, List.set_cons_succ]
    -- 25: t33 := len(t32) types [98] : 3   [if ⟨20, false⟩]
    refine wpB_take (i := 25) (v := ?_) (get_of_drop rfl) (by kernel_rfl) (by kernel_rfl) (by kernel_rfl) (by kernel_rfl) (fun _ _ _ h => h) (Or.inl ⟨by rfl, ?_⟩) hHeld ?_
    rotate_left
    · (intro w hSw; (try dsimp only at hSw); go_simp <;> with_reducible rfl)
    try simp only [Act.put, List.setIfInBounds_toArray, List.set_cons_zero, List.set_cons_succ]
    -- 26: t34 := binOp BinOp.add 3 t33 #i64:1 3 : 3   [if ⟨20, false⟩]
    refine wpB_take (i := 26) (v := ?_) (get_of_drop rfl) (by kernel_rfl) (by kernel_rfl) (by kernel_rfl) (by kernel_rfl) (fun _ _ _ h => h) (Or.inl ⟨by rfl, ?_⟩) hHeld ?_
    rotate_left
    · (intro w hSw; (try dsimp only at hSw); go_simp <;> with_reducible rfl)
    try simp only [Act.put, List.setIfInBounds_toArray, List.set_cons_zero, List.set_cons_succ]
    -- 27: t35 := move t0 : 30   [if ⟨20, false⟩]
    refine wpB_take (i := 27) (v := ?_) (get_of_drop rfl) (by kernel_rfl) (by kernel_rfl) (by kernel_rfl) (by kernel_rfl) (fun _ _ _ h => h) (Or.inl ⟨by rfl, ?_⟩) hHeld ?_
    rotate_left
    · (intro w hSw; (try dsimp only at hSw); go_simp <;> with_reducible rfl)
    try simp only [Act.put, List.setIfInBounds_toArray, List.set_cons_zero, List.set_cons_succ]
    -- 28: t36 := CALL fn88(t35) : 3   [if ⟨20, false⟩]
    refine wpB_act (i := 28) (by kernel_rfl) (get_of_drop rfl) (fun K hK => ?_)
    go_simp
    refine (half_any (H.out.far hHeld) HOK.out.cfg.1).mono ?_
    rintro e' wy ⟨rfl, rfl⟩
    refine hK.out _ _ ?_ (fun hHeld2 => ?_)
    · first | assumption | exact Chg.alloc hHeld _
    clear hHeld hK K
    have hHeld := hHeld2
    clear hHeld2
    try simp only [Act.put, List.setIfInBounds_toArray, List.set_cons_zero, List.set_cons_succ]
    -- 29: t37 := binOp BinOp.lss 3 t34 t36 3 : 4   [if ⟨20, false⟩]
    refine wpB_take (i := 29) (v := ?_) (get_of_drop rfl) (by kernel_rfl) (by kernel_rfl) (by kernel_rfl) (by kernel_rfl) (fun _ _ _ h => h) (Or.inl ⟨by rfl, ?_⟩) hHeld ?_
    rotate_left
    · (intro w hSw; (try dsimp only at hSw); go_simp <;> with_reducible rfl)
    try simp only [Act.put, List.setIfInBounds_toArray, List.set_cons_zero, List.set_cons_succ]
    -- 30: t38 := pick t28 #true t37 : 4
    refine wpB_take (i := 30) (v := ?_) (get_of_drop rfl) (by kernel_rfl) (by kernel_rfl) (by kernel_rfl) (by kernel_rfl) (fun _ _ _ h => h) (Or.inl ⟨by rfl, ?_⟩) hHeld ?_
    rotate_left
    · (intro w hSw; (try dsimp only at hSw); go_simp <;> with_reducible rfl)
    try simp only [Act.put, List.setIfInBounds_toArray, List.set_cons_zero, List.set_cons_succ]
    refine wpB_done (by kernel_rfl) ?_ _
    go_wp2_with fail
    go_end0
    have e1 : decideR r = r := by unfold decideR; rw [if_neg HE.out]
    rw [e1]
    exact ⟨A, n, c, O, rfl, H.out.far ((Chg.refl (fun _ => False) w).drew), fun _ h => .inl h, ((Chg.refl (fun _ => False) w).drew).mono (fun _ h _ => h.elim)⟩
  have HHA := hid hha
  have hha2 : ¬ (cl : Int) + 1 < halfR r := by omega
  refine wpB_start (fun wx : World => Chg (fun _ => False) w wx) (by kernel_rfl) ?_
  have hHeld : (fun wx : World => Chg (fun _ => False) w wx) _ := (Chg.refl (fun _ => False) w).drew
  -- 0: t8 := move t0 : 30
  refine wpB_take (i := 0) (v := ?_) (get_of_drop rfl) (by kernel_rfl) (by kernel_rfl) (by kernel_rfl) (by kernel_rfl) (fun _ _ _ h => h) (Or.inl ⟨by rfl, ?_⟩) hHeld ?_
  rotate_left
  · (intro w hSw; (try dsimp only at hSw); go_simp <;> with_reducible rfl)
  try simp only [Act.put, List.setIfInBounds_toArray, List.set_cons_zero, List.set_cons_succ]
  -- 1: t9 := nilCheck t8 : 0
  refine wpB_take (i := 1) (v := ?_) (get_of_drop rfl) (by kernel_rfl) (by kernel_rfl) (by kernel_rfl) (by kernel_rfl) (fun _ _ _ h => h) (Or.inl ⟨by rfl, ?_⟩) hHeld ?_
  rotate_left
  · (intro w hSw; (try dsimp only at hSw); go_simp <;> with_reducible rfl)
  try simp only [Act.put, List.setIfInBounds_toArray, List.set_cons_zero, List.set_cons_succ]
  -- 2: t10 := fieldAddr 100 t9 2 : 0
  refine wpB_take (i := 2) (v := ?_) (get_of_drop rfl) (by kernel_rfl) (by kernel_rfl) (by kernel_rfl) (by kernel_rfl) (fun _ _ _ h => h) (Or.inl ⟨by rfl, ?_⟩) hHeld ?_
  rotate_left
  · (intro w hSw; (try dsimp only at hSw); go_simp <;> with_reducible rfl)
  try simp only [Act.put, List.setIfInBounds_toArray, List.set_cons_zero, List.set_cons_succ]
  -- 3: t11 := load 4 t10 : 4
  refine wpB_take (i := 3) (v := ?_) (get_of_drop rfl) (by kernel_rfl) (by kernel_rfl) (by kernel_rfl) (by kernel_rfl) (fun _ _ _ h => h) (Or.inl ⟨by rfl, ?_⟩) hHeld ?_
  rotate_left
  · (intro w hSw; (try dsimp only at hSw); go_simp <;> with_reducible rfl)
  try simp only [Act.put, List.setIfInBounds_toArray, List.set_cons_zero, List.set_cons_succ]
  -- 4: t12 := unOp UnOp.not 4 t11 : 4
  refine wpB_take (i := 4) (v := ?_) (get_of_drop rfl) (by kernel_rfl) (by kernel_rfl) (by kernel_rfl) (by kernel_rfl) (fun _ _ _ h => h) (Or.inl ⟨by rfl, ?_⟩) hHeld ?_
  rotate_left
  · (intro w hSw; (try dsimp only at hSw); go_simp <;> with_reducible rfl)
  try simp only [Act.put, List.setIfInBounds_toArray, List.set_cons_zero, List.set_cons_succ]
  -- 5: t13 := move t12 : 4
  refine wpB_take (i := 5) (v := ?_) (get_of_drop rfl) (by kernel_rfl) (by kernel_rfl) (by kernel_rfl) (by kernel_rfl) (fun _ _ _ h => h) (Or.inl ⟨by rfl, ?_⟩) hHeld ?_
  rotate_left
  · (intro w hSw; (try dsimp only at hSw); go_simp <;> with_reducible rfl)
  try simp only [Act.put, List.setIfInBounds_toArray, List.set_cons_zero, List.set_cons_succ]
  -- 6: t14 := move t0 : 30   [if ⟨5, false⟩]
  refine wpB_take (i := 6) (v := ?_) (get_of_drop rfl) (by kernel_rfl) (by kernel_rfl) (by kernel_rfl) (by kernel_rfl) (fun _ _ _ h => h) (Or.inl ⟨by rfl, ?_⟩) hHeld ?_
  rotate_left
  · (intro w hSw; (try dsimp only at hSw); go_simp <;> with_reducible rfl)
  try simp only [Act.put, List.setIfInBounds_toArray, List.set_cons_zero, List.set_cons_succ]
  -- 7: t15 := move t0 : 30   [if ⟨5, false⟩]
  refine wpB_take (i := 7) (v := ?_) (get_of_drop rfl) (by kernel_rfl) (by kernel_rfl) (by kernel_rfl) (by kernel_rfl) (fun _ _ _ h => h) (Or.inl ⟨by rfl, ?_⟩) hHeld ?_
  rotate_left
  · (intro w hSw; (try dsimp only at hSw); go_simp <;> with_reducible rfl)
  try simp only [Act.put, List.setIfInBounds_toArray, List.set_cons_zero, List.set_cons_succ]
  -- 8: t16 := nilCheck t15 : 0   [if ⟨5, false⟩]
  refine wpB_take (i := 8) (v := ?_) (get_of_drop rfl) (by kernel_rfl) (by kernel_rfl) (by kernel_rfl) (by kernel_rfl) (fun _ _ _ h => h) (Or.inl ⟨by rfl, ?_⟩) hHeld ?_
  rotate_left
  · (intro w hSw; (try dsimp only at hSw); go_simp <;> with_reducible rfl)
  try simp only [Act.put, List.setIfInBounds_toArray, List.set_cons_zero, List.set_cons_succ]
  -- 9: t17 := fieldAddr 100 t16 1 : 0   [if ⟨5, false⟩]
  refine wpB_take (i := 9) (v := ?_) (get_of_drop rfl) (by kernel_rfl) (by kernel_rfl) (by kernel_rfl) (by kernel_rfl) (fun _ _ _ h => h) (Or.inl ⟨by rfl, ?_⟩) hHeld ?_
  rotate_left
  · (intro w hSw; (try dsimp only at hSw); go_simp <;> with_reducible rfl)
  try simp only [Act.put, List.setIfInBounds_toArray, List.set_cons_zero, List.set_cons_succ]
  -- 10: t18 := fieldAddr 26 t17 0 : 0   [if ⟨5, false⟩]
  refine wpB_take (i := 10) (v := ?_) (get_of_drop rfl) (by kernel_rfl) (by kernel_rfl) (by kernel_rfl) (by kernel_rfl) (fun _ _ _ h => h) (Or.inl ⟨by rfl, ?_⟩) hHeld ?_
  rotate_left
  · (intro w hSw; (try dsimp only at hSw); go_simp <;> with_reducible rfl)
  try simp only [Act.put, List.setIfInBounds_toArray, List.set_cons_zero, List.set_cons_succ]
  -- 11: t19 := load 3 t18 : 3   [if ⟨5, false⟩]
  refine wpB_take (i := 11) (v := ?_) (get_of_drop rfl) (by kernel_rfl) (by kernel_rfl) (by kernel_rfl) (by kernel_rfl) (fun _ _ _ h => h) (Or.inl ⟨by rfl, ?_⟩) hHeld ?_
  rotate_left
  · (intro w hSw; (try dsimp only at hSw); go_simp <;> with_reducible rfl)
  try simp only [Act.put, List.setIfInBounds_toArray, List.set_cons_zero, List.set_cons_succ]
  -- 13: t21 := move t0 : 30   [if ⟨5, false⟩]
  refine wpB_take (i := 13) (v := ?_) (get_of_drop rfl) (by kernel_rfl) (by kernel_rfl) (by kernel_rfl) (by kernel_rfl) (fun _ _ _ h => h) (Or.inl ⟨by rfl, ?_⟩) hHeld ?_
  rotate_left
  · (intro w hSw; (try dsimp only at hSw); go_simp <;> with_reducible rfl)
  try simp only [Act.put, List.setIfInBounds_toArray, List.set_cons_zero, List.set_cons_succ]
  -- 14: t22 := nilCheck t21 : 0   [if ⟨5, false⟩]
  refine wpB_take (i := 14) (v := ?_) (get_of_drop rfl) (by kernel_rfl) (by kernel_rfl) (by kernel_rfl) (by kernel_rfl) (fun _ _ _ h => h) (Or.inl ⟨by rfl, ?_⟩) hHeld ?_
  rotate_left
  · (intro w hSw; (try dsimp only at hSw); go_simp <;> with_reducible rfl)
  try simp only [Act.put, List.setIfInBounds_toArray, List.set_cons_zero, List.set_cons_succ]
  -- 15: t23 := fieldAddr 100 t22 0 : 0   [if ⟨5, false⟩]
  refine wpB_take (i := 15) (v := ?_) (get_of_drop rfl) (by kernel_rfl) (by kernel_rfl) (by kernel_rfl) (by kernel_rfl) (fun _ _ _ h => h) (Or.inl ⟨by rfl, ?_⟩) hHeld ?_
  rotate_left
  · (intro w hSw; (try dsimp only at hSw); go_simp <;> with_reducible rfl)
  try simp only [Act.put, List.setIfInBounds_toArray, List.set_cons_zero, List.set_cons_succ]
  -- 16: t24 := fieldAddr 23 t23 1 : 0   [if ⟨5, false⟩]
  refine wpB_take (i := 16) (v := ?_) (get_of_drop rfl) (by kernel_rfl) (by kernel_rfl) (by kernel_rfl) (by kernel_rfl) (fun _ _ _ h => h) (Or.inl ⟨by rfl, ?_⟩) hHeld ?_
  rotate_left
  · (intro w hSw; (try dsimp only at hSw); go_simp <;> with_reducible rfl)
  try simp only [Act.put, List.setIfInBounds_toArray, List.set_cons_zero, List.set_cons_succ]
  -- 17: t25 := load 3 t24 : 3   [if ⟨5, false⟩]
  refine wpB_take (i := 17) (v := ?_) (get_of_drop rfl) (by kernel_rfl) (by kernel_rfl) (by kernel_rfl) (by kernel_rfl) (fun _ _ _ h => h) (Or.inl ⟨by rfl, ?_⟩) hHeld ?_
  rotate_left
  · (intro w hSw; (try dsimp only at hSw); go_simp <;> with_reducible rfl)
  try simp only [Act.put, List.setIfInBounds_toArray, List.set_cons_zero, List.set_cons_succ]
  -- 12: t20 := CALL fn48(t14, t19) : 3   [if ⟨5, false⟩]
  refine wpB_act (i := 12) (by kernel_rfl) (get_of_drop rfl) (fun K hK => ?_)
  go_simp
  refine (prim_any (H.out.far hHeld) HOK.out.cfg.1 HV.out).mono ?_
  rintro e' wy ⟨rfl, rfl⟩
  refine hK.out _ _ ?_ (fun hHeld2 => ?_)
  · first | assumption | exact Chg.alloc hHeld _
  clear hHeld hK K
  have hHeld := hHeld2
  clear hHeld2
  try simp only [Act.put, List.setIfInBounds_toArray, List.set_cons_zero, List.set_cons_succ]
  -- 18: t26 := binOp BinOp.neq 3 t20 t25 3 : 4   [if ⟨5, false⟩]
  refine wpB_take (i := 18) (v := ?_) (get_of_drop rfl) (by kernel_rfl) (by kernel_rfl) (by kernel_rfl) (by kernel_rfl) (fun _ _ _ h => h) (Or.inl ⟨by rfl, ?_⟩) hHeld ?_
  rotate_left
  · (intro w hSw; (try dsimp only at hSw); go_simp <;> with_reducible rfl)
  try simp only [Act.put, List.setIfInBounds_toArray, List.set_cons_zero, List.set_cons_succ]
  -- 19: t27 := pick t13 #true t26 : 4
  refine wpB_take (i := 19) (v := ?_) (get_of_drop rfl) (by kernel_rfl) (by kernel_rfl) (by kernel_rfl) (by kernel_rfl) (fun _ _ _ h => h) (Or.inl ⟨by rfl, ?_⟩) hHeld ?_
  rotate_left
  · (intro w hSw; (try dsimp only at hSw); go_simp <;> with_reducible rfl)
  try simp only [Act.put, List.setIfInBounds_toArray, List.set_cons_zero, List.set_cons_succ]
  -- 20: t28 := move t27 : 4
  refine wpB_take (i := 20) (v := ?_) (get_of_drop rfl) (by kernel_rfl) (by kernel_rfl) (by kernel_rfl) (by kernel_rfl) (fun _ _ _ h => h) (Or.inl ⟨by rfl, ?_⟩) hHeld ?_
  rotate_left
  · (intro w hSw; (try dsimp only at hSw); go_simp <;> with_reducible rfl)
  try simp only [Act.put, List.setIfInBounds_toArray, List.set_cons_zero, List.set_cons_succ]
  -- 21: t29 := move t0 : 30   [if ⟨20, false⟩]
  refine wpB_take (i := 21) (v := ?_) (get_of_drop rfl) (by kernel_rfl) (by kernel_rfl) (by kernel_rfl) (by kernel_rfl) (fun _ _ _ h => h) (Or.inl ⟨by rfl, ?_⟩) hHeld ?_
  rotate_left
  · (intro w hSw; (try dsimp only at hSw); go_simp <;> with_reducible rfl)
  try simp only [Act.put, List.setIfInBounds_toArray, List.set_cons_zero, List.set_cons_succ]
  -- 22: t30 := nilCheck t29 : 0   [if ⟨20, false⟩]
  refine wpB_take (i := 22) (v := ?_) (get_of_drop rfl) (by kernel_rfl) (by kernel_rfl) (by kernel_rfl) (by kernel_rfl) (fun _ _ _ h => h) (Or.inl ⟨by rfl, ?_⟩) hHeld ?_
  rotate_left
  · (intro w hSw; (try dsimp only at hSw); go_simp <;> with_reducible rfl)
  try simp only [Act.put, List.setIfInBounds_toArray, List.set_cons_zero, List.set_cons_succ]
  -- 23: t31 := fieldAddr 100 t30 5 : 0   [if ⟨20, false⟩]
  refine wpB_take (i := 23) (v := ?_) (get_of_drop rfl) (by kernel_rfl) (by kernel_rfl) (by kernel_rfl) (by kernel_rfl) (fun _ _ _ h => h) (Or.inl ⟨by rfl, ?_⟩) hHeld ?_
  rotate_left
  · (intro w hSw; (try dsimp only at hSw); go_simp <;> with_reducible rfl)
  try simp only [Act.put, List.setIfInBounds_toArray, List.set_cons_zero, List.set_cons_succ]
  -- 24: t32 := load 98 t31 : 98   [if ⟨20, false⟩]
  refine wpB_take (i := 24) (v := ?_) (get_of_drop rfl) (by kernel_rfl) (by kernel_rfl) (by kernel_rfl) (by kernel_rfl) (fun _ _ _ h => h) (Or.inl ⟨by rfl, ?_⟩) hHeld ?_
  rotate_left
  · (intro w hSw; (try dsimp only at hSw); go_simp <;> with_reducible rfl)
  try simp only [Act.put, List.setIfInBounds_toArray, List.set_cons_zero, List.set_cons_succ]
  -- 25: t33 := len(t32) types [98] : 3   [if ⟨20, false⟩]
  refine wpB_take (i := 25) (v := ?_) (get_of_drop rfl) (by kernel_rfl) (by kernel_rfl) (by kernel_rfl) (by kernel_rfl) (fun _ _ _ h => h) (Or.inl ⟨by rfl, ?_⟩) hHeld ?_
  rotate_left
  · (intro w hSw; (try dsimp only at hSw); go_simp <;> with_reducible rfl)
  try simp only [Act.put, List.setIfInBounds_toArray, List.set_cons_zero, List.set_cons_succ]
  -- 26: t34 := binOp BinOp.add 3 t33 #i64:1 3 : 3   [if ⟨20, false⟩]
  refine wpB_take (i := 26) (v := ?_) (get_of_drop rfl) (by kernel_rfl) (by kernel_rfl) (by kernel_rfl) (by kernel_rfl) (fun _ _ _ h => h) (Or.inl ⟨by rfl, ?_⟩) hHeld ?_
  rotate_left
  · (intro w hSw; (try dsimp only at hSw); go_simp <;> with_reducible rfl)
  try simp only [Act.put, List.setIfInBounds_toArray, List.set_cons_zero, List.set_cons_succ]
  -- 27: t35 := move t0 : 30   [if ⟨20, false⟩]
  refine wpB_take (i := 27) (v := ?_) (get_of_drop rfl) (by kernel_rfl) (by kernel_rfl) (by kernel_rfl) (by kernel_rfl) (fun _ _ _ h => h) (Or.inl ⟨by rfl, ?_⟩) hHeld ?_
  rotate_left
  · (intro w hSw; (try dsimp only at hSw); go_simp <;> with_reducible rfl)
  try simp only [Act.put, List.setIfInBounds_toArray, List.set_cons_zero, List.set_cons_succ]
  -- 28: t36 := CALL fn88(t35) : 3   [if ⟨20, false⟩]
  refine wpB_act (i := 28) (by kernel_rfl) (get_of_drop rfl) (fun K hK => ?_)
  go_simp
  refine (half_any (H.out.far hHeld) HOK.out.cfg.1).mono ?_
  rintro e' wy ⟨rfl, rfl⟩
  refine hK.out _ _ ?_ (fun hHeld2 => ?_)
  · first | assumption | exact Chg.alloc hHeld _
  clear hHeld hK K
  have hHeld := hHeld2
  clear hHeld2
  try simp only [Act.put, List.setIfInBounds_toArray, List.set_cons_zero, List.set_cons_succ]
  -- 29: t37 := binOp BinOp.lss 3 t34 t36 3 : 4   [if ⟨20, false⟩]
  refine wpB_take (i := 29) (v := ?_) (get_of_drop rfl) (by kernel_rfl) (by kernel_rfl) (by kernel_rfl) (by kernel_rfl) (fun _ _ _ h => h) (Or.inl ⟨by rfl, ?_⟩) hHeld ?_
  rotate_left
  · (intro w hSw; (try dsimp only at hSw); go_simp <;> with_reducible rfl)
  try simp only [Act.put, List.setIfInBounds_toArray, List.set_cons_zero, List.set_cons_succ]
  -- 30: t38 := pick t28 #true t37 : 4
  refine wpB_take (i := 30) (v := ?_) (get_of_drop rfl) (by kernel_rfl) (by kernel_rfl) (by kernel_rfl) (by kernel_rfl) (fun _ _ _ h => h) (Or.inl ⟨by rfl, ?_⟩) hHeld ?_
  rotate_left
  · (intro w hSw; (try dsimp only at hSw); go_simp <;> with_reducible rfl)
  try simp only [Act.put, List.setIfInBounds_toArray, List.set_cons_zero, List.set_cons_succ]
  refine wpB_done (by kernel_rfl) ?_ _
  go_wp2_with fail
  clear U_0 U_1 U_3 U_8 U_11 hlen hpr2 hlb hwr hHeld hha hha2
  obtain ⟨wd, hwd⟩ : ∃ q_, q_ = w.drew := ⟨_, rfl⟩
  rw [← hwd]
  have CD := hid (show Chg (fun _ => False) w wd by rw [hwd]; exact (Chg.refl (fun _ => False) w).drew)
  clear hwd
  have H2 := hid (H.out.far CD.out)
  replace BP := hid H2.out.blk
  replace HIM := hid (HIM.out.chg CD.out (fun h => h))
  replace HCH := hid (HCH.out.chg CD.out (fun _ _ h => h))
  go_wp2_with fail
  have U_4 : ∀ wx, Chg (fun _ => False) wd wx → wx.cell? ⟨p, 4, none⟩ = some (.int .i64 r.s.normal) := fun wx hx => (cellAt (hx.blk BP.out (fun h => h)) 4).trans rfl
  have U_5 : ∀ wx, Chg (fun _ => False) wd wx → wx.cell? ⟨p, 5, none⟩ = some (.int .i64 r.s.commit) := fun wx hx => (cellAt (hx.blk BP.out (fun h => h)) 5).trans rfl
  have U_7 : ∀ wx, Chg (fun _ => False) wd wx → wx.cell? ⟨p, 7, none⟩ = some (.slice A n c) := fun wx hx => (cellAt (hx.blk BP.out (fun h => h)) 7).trans rfl
  refine wpB_start (fun wx : World => Chg (fun _ => False) wd wx) (by kernel_rfl) ?_
  have hHeld : (fun wx : World => Chg (fun _ => False) wd wx) _ := (Chg.refl (fun _ => False) wd).drew
  -- 0: t39 := move t0 : 30
  refine wpB_take (i := 0) (v := ?_) (get_of_drop rfl) (by kernel_rfl) (by kernel_rfl) (by kernel_rfl) (by kernel_rfl) (fun _ _ _ h => h) (Or.inl ⟨by rfl, ?_⟩) hHeld ?_
  rotate_left
  · (intro w hSw; (try dsimp only at hSw); go_simp <;> with_reducible rfl)
  try simp only [Act.put, List.setIfInBounds_toArray, List.set_cons_zero, List.set_cons_succ]
  -- 1: t40 := nilCheck t39 : 0
  refine wpB_take (i := 1) (v := ?_) (get_of_drop rfl) (by kernel_rfl) (by kernel_rfl) (by kernel_rfl) (by kernel_rfl) (fun _ _ _ h => h) (Or.inl ⟨by rfl, ?_⟩) hHeld ?_
  rotate_left
  · (intro w hSw; (try dsimp only at hSw); go_simp <;> with_reducible rfl)
  try simp only [Act.put, List.setIfInBounds_toArray, List.set_cons_zero, List.set_cons_succ]
  -- 2: t41 := fieldAddr 100 t40 1 : 0
  refine wpB_take (i := 2) (v := ?_) (get_of_drop rfl) (by kernel_rfl) (by kernel_rfl) (by kernel_rfl) (by kernel_rfl) (fun _ _ _ h => h) (Or.inl ⟨by rfl, ?_⟩) hHeld ?_
  rotate_left
  · (intro w hSw; (try dsimp only at hSw); go_simp <;> with_reducible rfl)
  try simp only [Act.put, List.setIfInBounds_toArray, List.set_cons_zero, List.set_cons_succ]
  -- 3: t42 := fieldAddr 26 t41 1 : 0
  refine wpB_take (i := 3) (v := ?_) (get_of_drop rfl) (by kernel_rfl) (by kernel_rfl) (by kernel_rfl) (by kernel_rfl) (fun _ _ _ h => h) (Or.inl ⟨by rfl, ?_⟩) hHeld ?_
  rotate_left
  · (intro w hSw; (try dsimp only at hSw); go_simp <;> with_reducible rfl)
  try simp only [Act.put, List.setIfInBounds_toArray, List.set_cons_zero, List.set_cons_succ]
  -- 4: t43 := load 3 t42 : 3
  refine wpB_take (i := 4) (v := ?_) (get_of_drop rfl) (by kernel_rfl) (by kernel_rfl) (by kernel_rfl) (by kernel_rfl) (fun _ _ _ h => h) (Or.inl ⟨by rfl, ?_⟩) hHeld ?_
  rotate_left
  · (intro w hSw; (try dsimp only at hSw); go_simp <;> with_reducible rfl)
  try simp only [Act.put, List.setIfInBounds_toArray, List.set_cons_zero, List.set_cons_succ]
  -- 5: t44 := move t0 : 30
  refine wpB_take (i := 5) (v := ?_) (get_of_drop rfl) (by kernel_rfl) (by kernel_rfl) (by kernel_rfl) (by kernel_rfl) (fun _ _ _ h => h) (Or.inl ⟨by rfl, ?_⟩) hHeld ?_
  rotate_left
  · (intro w hSw; (try dsimp only at hSw); go_simp <;> with_reducible rfl)
  try simp only [Act.put, List.setIfInBounds_toArray, List.set_cons_zero, List.set_cons_succ]
  -- 6: t45 := nilCheck t44 : 0
  refine wpB_take (i := 6) (v := ?_) (get_of_drop rfl) (by kernel_rfl) (by kernel_rfl) (by kernel_rfl) (by kernel_rfl) (fun _ _ _ h => h) (Or.inl ⟨by rfl, ?_⟩) hHeld ?_
  rotate_left
  · (intro w hSw; (try dsimp only at hSw); go_simp <;> with_reducible rfl)
  try simp only [Act.put, List.setIfInBounds_toArray, List.set_cons_zero, List.set_cons_succ]
  -- 7: t46 := fieldAddr 100 t45 1 : 0
  refine wpB_take (i := 7) (v := ?_) (get_of_drop rfl) (by kernel_rfl) (by kernel_rfl) (by kernel_rfl) (by kernel_rfl) (fun _ _ _ h => h) (Or.inl ⟨by rfl, ?_⟩) hHeld ?_
  rotate_left
  · (intro w hSw; (try dsimp only at hSw); go_simp <;> with_reducible rfl)
  try simp only [Act.put, List.setIfInBounds_toArray, List.set_cons_zero, List.set_cons_succ]
  -- 8: t47 := fieldAddr 26 t46 4 : 0
  refine wpB_take (i := 8) (v := ?_) (get_of_drop rfl) (by kernel_rfl) (by kernel_rfl) (by kernel_rfl) (by kernel_rfl) (fun _ _ _ h => h) (Or.inl ⟨by rfl, ?_⟩) hHeld ?_
  rotate_left
  · (intro w hSw; (try dsimp only at hSw); go_simp <;> with_reducible rfl)
  try simp only [Act.put, List.setIfInBounds_toArray, List.set_cons_zero, List.set_cons_succ]
  -- 9: t48 := load 24 t47 : 24
  refine wpB_take (i := 9) (v := ?_) (get_of_drop rfl) (by kernel_rfl) (by kernel_rfl) (by kernel_rfl) (by kernel_rfl) (fun _ _ _ h => h) (Or.inl ⟨by rfl, ?_⟩) hHeld ?_
  rotate_left
  · (intro w hSw; (try dsimp only at hSw); go_simp <;> with_reducible rfl)
  try simp only [Act.put, List.setIfInBounds_toArray, List.set_cons_zero, List.set_cons_succ]
  -- 10: t49 := move t0 : 30
  refine wpB_take (i := 10) (v := ?_) (get_of_drop rfl) (by kernel_rfl) (by kernel_rfl) (by kernel_rfl) (by kernel_rfl) (fun _ _ _ h => h) (Or.inl ⟨by rfl, ?_⟩) hHeld ?_
  rotate_left
  · (intro w hSw; (try dsimp only at hSw); go_simp <;> with_reducible rfl)
  try simp only [Act.put, List.setIfInBounds_toArray, List.set_cons_zero, List.set_cons_succ]
  -- 11: t50 := nilCheck t49 : 0
  refine wpB_take (i := 11) (v := ?_) (get_of_drop rfl) (by kernel_rfl) (by kernel_rfl) (by kernel_rfl) (by kernel_rfl) (fun _ _ _ h => h) (Or.inl ⟨by rfl, ?_⟩) hHeld ?_
  rotate_left
  · (intro w hSw; (try dsimp only at hSw); go_simp <;> with_reducible rfl)
  try simp only [Act.put, List.setIfInBounds_toArray, List.set_cons_zero, List.set_cons_succ]
  -- 12: t51 := fieldAddr 100 t50 1 : 0
  refine wpB_take (i := 12) (v := ?_) (get_of_drop rfl) (by kernel_rfl) (by kernel_rfl) (by kernel_rfl) (by kernel_rfl) (fun _ _ _ h => h) (Or.inl ⟨by rfl, ?_⟩) hHeld ?_
  rotate_left
  · (intro w hSw; (try dsimp only at hSw); go_simp <;> with_reducible rfl)
  try simp only [Act.put, List.setIfInBounds_toArray, List.set_cons_zero, List.set_cons_succ]
  -- 13: t52 := fieldAddr 26 t51 2 : 0
  refine wpB_take (i := 13) (v := ?_) (get_of_drop rfl) (by kernel_rfl) (by kernel_rfl) (by kernel_rfl) (by kernel_rfl) (fun _ _ _ h => h) (Or.inl ⟨by rfl, ?_⟩) hHeld ?_
  rotate_left
  · (intro w hSw; (try dsimp only at hSw); go_simp <;> with_reducible rfl)
  try simp only [Act.put, List.setIfInBounds_toArray, List.set_cons_zero, List.set_cons_succ]
  -- 14: t53 := load 3 t52 : 3
  refine wpB_take (i := 14) (v := ?_) (get_of_drop rfl) (by kernel_rfl) (by kernel_rfl) (by kernel_rfl) (by kernel_rfl) (fun _ _ _ h => h) (Or.inl ⟨by rfl, ?_⟩) hHeld ?_
  rotate_left
  · (intro w hSw; (try dsimp only at hSw); go_simp <;> with_reducible rfl)
  try simp only [Act.put, List.setIfInBounds_toArray, List.set_cons_zero, List.set_cons_succ]
  -- 15: t2 := assign t43 : 3
  refine wpB_take (i := 15) (v := ?_) (get_of_drop rfl) (by kernel_rfl) (by kernel_rfl) (by kernel_rfl) (by kernel_rfl) (fun _ _ _ h => h) (Or.inl ⟨by rfl, ?_⟩) hHeld ?_
  rotate_left
  · (intro w hSw; (try dsimp only at hSw); go_simp <;> with_reducible rfl)
  try simp only [Act.put, List.setIfInBounds_toArray, List.set_cons_zero, List.set_cons_succ]
  -- 16: t3 := assign t48 : 24
  refine wpB_take (i := 16) (v := ?_) (get_of_drop rfl) (by kernel_rfl) (by kernel_rfl) (by kernel_rfl) (by kernel_rfl) (fun _ _ _ h => h) (Or.inl ⟨by rfl, ?_⟩) hHeld ?_
  rotate_left
  · (intro w hSw; (try dsimp only at hSw); go_simp <;> with_reducible rfl)
  try simp only [Act.put, List.setIfInBounds_toArray, List.set_cons_zero, List.set_cons_succ]
  -- 17: t4 := assign t53 : 3
  refine wpB_take (i := 17) (v := ?_) (get_of_drop rfl) (by kernel_rfl) (by kernel_rfl) (by kernel_rfl) (by kernel_rfl) (fun _ _ _ h => h) (Or.inl ⟨by rfl, ?_⟩) hHeld ?_
  rotate_left
  · (intro w hSw; (try dsimp only at hSw); go_simp <;> with_reducible rfl)
  try simp only [Act.put, List.setIfInBounds_toArray, List.set_cons_zero, List.set_cons_succ]
  refine wpB_done (by kernel_rfl) ?_ _
  clear U_4 U_5 U_7 hHeld
  obtain ⟨w2, hw2⟩ : ∃ q_, q_ = wd.drew := ⟨_, rfl⟩
  rw [← hw2]
  have C2 := hid (show Chg (fun _ => False) wd w2 by rw [hw2]; exact (Chg.refl (fun _ => False) wd).drew)
  clear hw2
  have H3 := hid (H2.out.far C2.out)
  replace BP := hid H3.out.blk
  replace HIM := hid (HIM.out.chg C2.out (fun h => h))
  replace HCH := hid (HCH.out.chg C2.out (fun _ _ h => h))
  obtain ⟨N, hN⟩ : ∃ N : Nat, N = r.n.toNat := ⟨_, rfl⟩
  have hN2 : r.n = (N : Int) := by have := HOK.out.cfg; omega
  have HN7 := hid (show N ≤ 7 by have := HOK.out.cfg; omega)
  have HNN := hid hN
  have P_0 : w2.cell? ⟨p, 0, none⟩ = some (.int .i64 (N : Int)) := by rw [← hN2]; exact (cellAt BP.out 0).trans rfl
  clear hN hN2
  go_wp2_with fail
  clear P_0
  go_loopw [2, 3, 4, 59] (fun nv sl dv i wr => ∃ (q : Nat) (b : Best) (B' : Option Addr) (k' d' : Nat), q ≤ N ∧ i = .int .i64 q ∧ nv = .int .i64 b.normal ∧ sl = .slice B' k' d' ∧ dv = .int .i64 b.done ∧ bestTo r q = b ∧ Ty.At entryK wr (Lg X O) B' k' d' b.log ∧ Chg (fun _ => False) w2 wr) (fun _ _ _ i _ => N - (intOf i).toNat)
  case atStart => exact ⟨0, bestTo r 0, A, n, c, Nat.zero_le _, rfl, rfl, rfl, rfl, rfl, H3.out.log, Chg.refl _ _⟩
  case round =>
    obtain ⟨q, bb, B', k', d', hq, rfl, rfl, rfl, rfl, hb, hat, hC⟩ := hrel
    have HB := hid hb
    have HAT := hid hat
    have HC := hid hC
    have BPr := hid (hC.blk BP.out (fun h => h))
    have HIMr := hid (HIM.out.chg hC (fun h => h))
    have HCHr := hid (HCH.out.chg hC (fun _ _ h => h))
    have KL := hid hat.1
    have HRr := hid (H3.out.far hC)
    clear hb hat hC
    by_cases hlt : q < N
    · have hlt2 : (q : Int) < (N : Int) := by omega
      have HQ := hid (show q ≤ N from hq)
      have HLT := hid hlt
      have hq7 : (q : Int) ≤ 7 := by have := HN7.out; omega
      have HQW := hid (show (Lit.int .i64 (q : Int)).wf = true from numW_of (by have := HN7.out; omega))
      have P_11 : wr.cell? ⟨p, 11, none⟩ = some (.map (some b3)) := (cellAt BPr.out 11).trans rfl
      have hlk := (HIMr.out).lookup (P := Try.prog) true map_ty3 Try.underlying3 (zero_msg_run wr) HQW.out
      have hLK := HCHr.out.look (i := (q : Int))
      cases hm : look (q : Int) r.chgs with
      | none =>
        rw [hm] at hLK
        rw [hLK] at hlk
        simp only [Option.getD_none, Option.isSome_none, if_true] at hlk
        have HS := hid (show bestTo r (q + 1) = bb by rw [bestTo, bestStep, hm, HB.out])
        clear hm hLK
        go_wp2_with fail
        go_roundw
        case measure => simp [intOf]; omega
        case rel => first | exact ⟨q + 1, bb, B', k', d', hlt, by go_num, rfl, rfl, rfl, HS.out, HAT.out.chg ((Chg.refl (fun _ => False) wr).alloc _) (fun _ _ h => h), HC.out.alloc _⟩ | ((repeat apply Exists.intro); exact ⟨⟨q + 1, bb, B', k', d', hlt, by go_num, rfl, rfl, rfl, HS.out, HAT.out.chg ((Chg.refl (fun _ => False) wr).alloc _) (fun _ _ h => h), HC.out.alloc _⟩, rfl⟩)
      | some m =>
        rw [hm] at hLK
        obtain ⟨cs, hv, hK⟩ := hLK
        obtain ⟨B2, k2, d2, rfl, hml⟩ := msg_open hK
        rw [hv] at hlk
        simp only [Option.getD_some, Option.isSome_some, if_true] at hlk
        have HM := hid hm
        have HML := hid hml
        have HMR := hid (HOK.out.chgs _ (look_mem hm)).2.2
        have K2 := hid hml.1
        obtain ⟨W1, hW1⟩ : ∃ W1, W1 = wr.alloc (.cells #[.int .i64 m.kind, .int .i64 m.view, .int .i64 m.src, .int .i64 m.dst, .int .i64 m.op, .int .i64 m.commit, .int .i64 m.normal, .slice B2 k2 d2] 41) := ⟨_, rfl⟩
        have CW1 := hid (show Chg (fun _ => False) wr W1 by rw [hW1]; exact (Chg.refl _ wr).alloc _)
        have BW1 := hid (show W1.heap[wr.heap.size]? = some (.cells #[.int .i64 m.kind, .int .i64 m.view, .int .i64 m.src, .int .i64 m.dst, .int .i64 m.op, .int .i64 m.commit, .int .i64 m.normal, .slice B2 k2 d2] 41 (0, 0)) by rw [hW1]; exact blk_new wr _)
        have HSZ := hid (lt_of_blk BPr.out)
        clear hm hK hml hv
        go_wp2_with fail
        rw [← hW1]
        clear hW1 hlk P_11
        refine (fits_any (HRr.out.far CW1.out) (HML.out.chg CW1.out (fun _ _ h => h)) HOK.out.st).mono ?_
        rintro e' wz ⟨rfl, hz⟩
        have CZ := hid (show Chg (fun _ => False) wr wz from CW1.out.trans hz (fun _ h _ => h))
        have BZ := hid (hz.blk BW1.out (fun h => h))
        have CZ2 := hid (show Chg (fun _ => False) w2 wz from HC.out.trans CZ.out (fun _ h _ => h))
        have ATZ := hid (HAT.out.chg CZ.out (fun _ _ h => h))
        clear hz
        cases hf : fitsR r m.log with
        | false =>
          have HS := hid (show bestTo r (q + 1) = bb by rw [bestTo, bestStep, HM.out, HB.out]; simp only [hf]; rfl)
          clear hf
          go_wp2_with fail
          go_roundw
          case measure => simp [intOf]; omega
          case rel => first | exact ⟨q + 1, bb, B', k', d', hlt, by go_num, rfl, rfl, rfl, HS.out, ATZ.out, CZ2.out⟩ | ((repeat apply Exists.intro); exact ⟨⟨q + 1, bb, B', k', d', hlt, by go_num, rfl, rfl, rfl, HS.out, ATZ.out, CZ2.out⟩, rfl⟩)
        | true =>
          have HS := hid (show bestTo r (q + 1) = ⟨if better bb m then m.normal else bb.normal, if better bb m then m.log else bb.log, max bb.done m.commit⟩ by rw [bestTo, bestStep, HM.out, HB.out]; simp only [hf]; rfl)
          clear hf
          have Z_6 : wz.cell? ⟨wr.heap.size, 6, none⟩ = some (.int .i64 m.normal) := (cellAt BZ.out 6).trans rfl
          have Z_7 : wz.cell? ⟨wr.heap.size, 7, none⟩ = some (.slice B2 k2 d2) := (cellAt BZ.out 7).trans rfl
          have Z_5 : wz.cell? ⟨wr.heap.size, 5, none⟩ = some (.int .i64 m.commit) := (cellAt BZ.out 5).trans rfl
          by_cases hbt : better bb m = true
          · have HBT := hid hbt
            have hbi := better_iff.1 hbt
            rw [← KL.out, ← K2.out] at hbi
            replace HS := hid (show bestTo r (q + 1) = ⟨m.normal, m.log, max bb.done m.commit⟩ by rw [HS.out, if_pos HBT.out, if_pos HBT.out])
            have HMX := hid (mx_eq bb.done m.commit)
            clear hbt
            have UZ_6 : ∀ wx, Chg (fun _ => False) wz wx → wx.cell? ⟨wr.heap.size, 6, none⟩ = some (.int .i64 m.normal) := fun wx hx => (cellAt (hx.blk BZ.out (fun h => h)) 6).trans rfl
            have UZ_7 : ∀ wx, Chg (fun _ => False) wz wx → wx.cell? ⟨wr.heap.size, 7, none⟩ = some (.slice B2 k2 d2) := fun wx hx => (cellAt (hx.blk BZ.out (fun h => h)) 7).trans rfl
            have ATM := hid (HML.out.chg CZ.out (fun _ _ h => h))
            by_cases h1 : bb.normal < m.normal
            · clear hbi
              go_wp2_with fail
              refine wpB_start (fun wx : World => Chg (fun _ => False) wz wx) (by kernel_rfl) ?_
              have hHeld : (fun wx : World => Chg (fun _ => False) wz wx) _ := (Chg.refl (fun _ => False) wz).drew
              -- 0: t98 := fieldAddr 41 t6 6 : 0
              refine wpB_take (i := 0) (v := ?_) (get_of_drop rfl) (by kernel_rfl) (by kernel_rfl) (by kernel_rfl) (by kernel_rfl) (fun _ _ _ h => h) (Or.inl ⟨by rfl, ?_⟩) hHeld ?_
              rotate_left
              · (intro w hSw; (try dsimp only at hSw); go_simp <;> with_reducible rfl)
              try simp only [Act.put, List.setIfInBounds_toArray, List.set_cons_zero, List.set_cons_succ]
              -- 1: t99 := load 3 t98 : 3
              refine wpB_take (i := 1) (v := ?_) (get_of_drop rfl) (by kernel_rfl) (by kernel_rfl) (by kernel_rfl) (by kernel_rfl) (fun _ _ _ h => h) (Or.inl ⟨by rfl, ?_⟩) hHeld ?_
              rotate_left
              · (intro w hSw; (try dsimp only at hSw); go_simp <;> with_reducible rfl)
              try simp only [Act.put, List.setIfInBounds_toArray, List.set_cons_zero, List.set_cons_succ]
              -- 2: t100 := fieldAddr 41 t6 7 : 0
              refine wpB_take (i := 2) (v := ?_) (get_of_drop rfl) (by kernel_rfl) (by kernel_rfl) (by kernel_rfl) (by kernel_rfl) (fun _ _ _ h => h) (Or.inl ⟨by rfl, ?_⟩) hHeld ?_
              rotate_left
              · (intro w hSw; (try dsimp only at hSw); go_simp <;> with_reducible rfl)
              try simp only [Act.put, List.setIfInBounds_toArray, List.set_cons_zero, List.set_cons_succ]
              -- 3: t101 := load 24 t100 : 24
              refine wpB_take (i := 3) (v := ?_) (get_of_drop rfl) (by kernel_rfl) (by kernel_rfl) (by kernel_rfl) (by kernel_rfl) (fun _ _ _ h => h) (Or.inl ⟨by rfl, ?_⟩) hHeld ?_
              rotate_left
              · (intro w hSw; (try dsimp only at hSw); go_simp <;> with_reducible rfl)
              try simp only [Act.put, List.setIfInBounds_toArray, List.set_cons_zero, List.set_cons_succ]
              -- 4: t2 := assign t99 : 3
              refine wpB_take (i := 4) (v := ?_) (get_of_drop rfl) (by kernel_rfl) (by kernel_rfl) (by kernel_rfl) (by kernel_rfl) (fun _ _ _ h => h) (Or.inl ⟨by rfl, ?_⟩) hHeld ?_
              rotate_left
              · (intro w hSw; (try dsimp only at hSw); go_simp <;> with_reducible rfl)
              try simp only [Act.put, List.setIfInBounds_toArray, List.set_cons_zero, List.set_cons_succ]
              -- 5: t3 := assign t101 : 24
              refine wpB_take (i := 5) (v := ?_) (get_of_drop rfl) (by kernel_rfl) (by kernel_rfl) (by kernel_rfl) (by kernel_rfl) (fun _ _ _ h => h) (Or.inl ⟨by rfl, ?_⟩) hHeld ?_
              rotate_left
              · (intro w hSw; (try dsimp only at hSw); go_simp <;> with_reducible rfl)
              try simp only [Act.put, List.setIfInBounds_toArray, List.set_cons_zero, List.set_cons_succ]
              refine wpB_done (by kernel_rfl) ?_ _
              clear UZ_6 UZ_7 hHeld
              go_wp2_with fail
              go_roundw
              case measure => simp [intOf]; omega
              case rel => first | exact ⟨q + 1, ⟨m.normal, m.log, max bb.done m.commit⟩, B2, k2, d2, HLT.out, by go_num, rfl, rfl, by rw [HMX.out], HS.out, ATM.out.chg (Chg.refl (fun _ => False) wz).drew (fun _ _ h => h), CZ2.out.drew⟩ | ((repeat apply Exists.intro); exact ⟨⟨q + 1, ⟨m.normal, m.log, max bb.done m.commit⟩, B2, k2, d2, HLT.out, by go_num, rfl, rfl, by rw [HMX.out], HS.out, ATM.out.chg (Chg.refl (fun _ => False) wz).drew (fun _ _ h => h), CZ2.out.drew⟩, rfl⟩)
            · have h2 : m.normal = bb.normal := by rcases hbi with h | h; exact absurd h h1; exact h.1
              have h2b : (m.normal == bb.normal) = true := by simp [h2]
              have h3 : (k' : Int) < (k2 : Int) := by rcases hbi with h | h; exact absurd h h1; have := h.2; omega
              clear hbi h2
              go_wp2_with fail
              refine wpB_start (fun wx : World => Chg (fun _ => False) wz wx) (by kernel_rfl) ?_
              have hHeld : (fun wx : World => Chg (fun _ => False) wz wx) _ := (Chg.refl (fun _ => False) wz).drew
              -- 0: t98 := fieldAddr 41 t6 6 : 0
              refine wpB_take (i := 0) (v := ?_) (get_of_drop rfl) (by kernel_rfl) (by kernel_rfl) (by kernel_rfl) (by kernel_rfl) (fun _ _ _ h => h) (Or.inl ⟨by rfl, ?_⟩) hHeld ?_
              rotate_left
              · (intro w hSw; (try dsimp only at hSw); go_simp <;> with_reducible rfl)
              try simp only [Act.put, List.setIfInBounds_toArray, List.set_cons_zero, List.set_cons_succ]
              -- 1: t99 := load 3 t98 : 3
              refine wpB_take (i := 1) (v := ?_) (get_of_drop rfl) (by kernel_rfl) (by kernel_rfl) (by kernel_rfl) (by kernel_rfl) (fun _ _ _ h => h) (Or.inl ⟨by rfl, ?_⟩) hHeld ?_
              rotate_left
              · (intro w hSw; (try dsimp only at hSw); go_simp <;> with_reducible rfl)
              try simp only [Act.put, List.setIfInBounds_toArray, List.set_cons_zero, List.set_cons_succ]
              -- 2: t100 := fieldAddr 41 t6 7 : 0
              refine wpB_take (i := 2) (v := ?_) (get_of_drop rfl) (by kernel_rfl) (by kernel_rfl) (by kernel_rfl) (by kernel_rfl) (fun _ _ _ h => h) (Or.inl ⟨by rfl, ?_⟩) hHeld ?_
              rotate_left
              · (intro w hSw; (try dsimp only at hSw); go_simp <;> with_reducible rfl)
              try simp only [Act.put, List.setIfInBounds_toArray, List.set_cons_zero, List.set_cons_succ]
              -- 3: t101 := load 24 t100 : 24
              refine wpB_take (i := 3) (v := ?_) (get_of_drop rfl) (by kernel_rfl) (by kernel_rfl) (by kernel_rfl) (by kernel_rfl) (fun _ _ _ h => h) (Or.inl ⟨by rfl, ?_⟩) hHeld ?_
              rotate_left
              · (intro w hSw; (try dsimp only at hSw); go_simp <;> with_reducible rfl)
              try simp only [Act.put, List.setIfInBounds_toArray, List.set_cons_zero, List.set_cons_succ]
              -- 4: t2 := assign t99 : 3
              refine wpB_take (i := 4) (v := ?_) (get_of_drop rfl) (by kernel_rfl) (by kernel_rfl) (by kernel_rfl) (by kernel_rfl) (fun _ _ _ h => h) (Or.inl ⟨by rfl, ?_⟩) hHeld ?_
              rotate_left
              · (intro w hSw; (try dsimp only at hSw); go_simp <;> with_reducible rfl)
              try simp only [Act.put, List.setIfInBounds_toArray, List.set_cons_zero, List.set_cons_succ]
              -- 5: t3 := assign t101 : 24
              refine wpB_take (i := 5) (v := ?_) (get_of_drop rfl) (by kernel_rfl) (by kernel_rfl) (by kernel_rfl) (by kernel_rfl) (fun _ _ _ h => h) (Or.inl ⟨by rfl, ?_⟩) hHeld ?_
              rotate_left
              · (intro w hSw; (try dsimp only at hSw); go_simp <;> with_reducible rfl)
              try simp only [Act.put, List.setIfInBounds_toArray, List.set_cons_zero, List.set_cons_succ]
              refine wpB_done (by kernel_rfl) ?_ _
              clear UZ_6 UZ_7 hHeld
              go_wp2_with fail
              go_roundw
              case measure => simp [intOf]; omega
              case rel => first | exact ⟨q + 1, ⟨m.normal, m.log, max bb.done m.commit⟩, B2, k2, d2, HLT.out, by go_num, rfl, rfl, by rw [HMX.out], HS.out, ATM.out.chg (Chg.refl (fun _ => False) wz).drew (fun _ _ h => h), CZ2.out.drew⟩ | ((repeat apply Exists.intro); exact ⟨⟨q + 1, ⟨m.normal, m.log, max bb.done m.commit⟩, B2, k2, d2, HLT.out, by go_num, rfl, rfl, by rw [HMX.out], HS.out, ATM.out.chg (Chg.refl (fun _ => False) wz).drew (fun _ _ h => h), CZ2.out.drew⟩, rfl⟩)
          · have HBT := hid hbt
            have hbi : ¬ (bb.normal < m.normal ∨ (m.normal = bb.normal ∧ k' < k2)) := fun h => hbt (better_iff.2 (by rw [← KL.out, ← K2.out]; exact h))
            replace HS := hid (show bestTo r (q + 1) = ⟨bb.normal, bb.log, max bb.done m.commit⟩ by rw [HS.out, if_neg HBT.out, if_neg HBT.out])
            have HMX := hid (mx_eq bb.done m.commit)
            have h1 : ¬ bb.normal < m.normal := fun h => hbi (.inl h)
            clear hbt
            by_cases h2 : m.normal = bb.normal
            · have h3 : ¬ (k' : Int) < (k2 : Int) := fun h => hbi (.inr ⟨h2, by omega⟩)
              have h3b : ¬ k' < k2 := by omega
              have h2b : (m.normal == bb.normal) = true := by simp [h2]
              clear hbi h2
              go_wp2_with fail
              go_roundw
              case measure => simp [intOf]; omega
              case rel => first | exact ⟨q + 1, ⟨bb.normal, bb.log, max bb.done m.commit⟩, B', k', d', HLT.out, by go_num, rfl, rfl, by rw [HMX.out], HS.out, ATZ.out, CZ2.out⟩ | ((repeat apply Exists.intro); exact ⟨⟨q + 1, ⟨bb.normal, bb.log, max bb.done m.commit⟩, B', k', d', HLT.out, by go_num, rfl, rfl, by rw [HMX.out], HS.out, ATZ.out, CZ2.out⟩, rfl⟩)
            · have h2b : (m.normal == bb.normal) = false := by simp [h2]
              clear hbi h2
              go_wp2_with fail
              go_roundw
              case measure => simp [intOf]; omega
              case rel => first | exact ⟨q + 1, ⟨bb.normal, bb.log, max bb.done m.commit⟩, B', k', d', HLT.out, by go_num, rfl, rfl, by rw [HMX.out], HS.out, ATZ.out, CZ2.out⟩ | ((repeat apply Exists.intro); exact ⟨⟨q + 1, ⟨bb.normal, bb.log, max bb.done m.commit⟩, B', k', d', HLT.out, by go_num, rfl, rfl, by rw [HMX.out], HS.out, ATZ.out, CZ2.out⟩, rfl⟩)
    · have hqn : ¬ (q : Int) < (N : Int) := by omega
      obtain rfl : N = q := by omega
      have HBK := best_ok HOK.out N
      rw [HB.out] at HBK
      have HBO := hid HBK
      clear HBK
      have P_3 : wr.cell? ⟨p, 3, none⟩ = some (.int .i64 r.s.view) := (cellAt BPr.out 3).trans rfl
      have P_4 : wr.cell? ⟨p, 4, none⟩ = some (.int .i64 r.s.normal) := (cellAt BPr.out 4).trans rfl
      have P_5 : wr.cell? ⟨p, 5, none⟩ = some (.int .i64 r.s.commit) := (cellAt BPr.out 5).trans rfl
      have P_7 : wr.cell? ⟨p, 7, none⟩ = some (.slice A n c) := (cellAt BPr.out 7).trans rfl
      have P_8 : wr.cell? ⟨p, 8, none⟩ = some (.bool r.ch) := (cellAt BPr.out 8).trans rfl
      have F_4 : wr.frozen? ⟨p, 4, none⟩ = false := freeAt BPr.out 4
      have F_5 : wr.frozen? ⟨p, 5, none⟩ = false := freeAt BPr.out 5
      have F_7 : wr.frozen? ⟨p, 7, none⟩ = false := freeAt BPr.out 7
      have F_8 : wr.frozen? ⟨p, 8, none⟩ = false := freeAt BPr.out 8
      obtain ⟨t, ht⟩ : ∃ q_, q_ = mn bb.done (k' : Int) := ⟨_, rfl⟩
      have HT := hid (show t = min bb.done (bb.log.length : Int) by rw [ht, mn_eq, KL.out])
      obtain ⟨rw_, hrw⟩ : ∃ q_, q_ = { r with s := { r.s with log := bb.log, commit := t, normal := r.s.view }, ch := false } := ⟨_, rfl⟩
      have HRW := hid hrw
      obtain ⟨W5, hW5⟩ : ∃ q_, q_ = ((((wr.setCell ⟨p, 7, none⟩ (.slice B' k' d')).setCell ⟨p, 5, none⟩ (.int .i64 t)).setCell ⟨p, 4, none⟩ (.int .i64 r.s.view)).setCell ⟨p, 8, none⟩ (.bool false)) := ⟨_, rfl⟩
      have K5 := hid (show Chg (fun k => k = p) wr W5 by rw [hW5]; exact ((((Chg.refl (fun k => k = p) wr).set (fun _ => rfl) _).set (fun _ => rfl) _).set (fun _ => rfl) _).set (fun _ => rfl) _)
      have H5 := hid (HRr.out.relog (r' := rw_) K5.out (by rw [hW5, hrw]; exact blk_set (blk_set (blk_set (blk_set BPr.out 7 _) 5 _) 4 _) 8 _) (by rw [hrw]; exact HAT.out.chg K5.out (fun j hj e => hj.1 (HRr.out.sub.1 j (.inl e)))) (by rw [hrw]) (by rw [hrw]) (by rw [hrw]) (by rw [hrw]))
      have HW5 := hid hW5
      have HTT := hid ht
      clear hW5 ht hrw
      go_wp2_with fail
      rw [← HTT.out, ← HW5.out]
      clear HTT HW5 P_3 P_4 P_5 P_7 P_8 F_4 F_5 F_7 F_8
      refine (forget_any H5.out).mono ?_
      rintro e w6 ⟨rfl, h6, k6⟩
      have e6 : forgetR rw_ = wonR r bb := by rw [HRW.out, HT.out]; rfl
      rw [e6] at h6
      have H6 := hid h6
      have K6 := hid k6
      have KL2 := hid (show k' ≤ 64 by have := KL.out; have := HBO.out.len; omega)
      have HBC := hid (show 0 ≤ (wonR r bb).s.commit ∧ (wonR r bb).s.commit ≤ 64 by have h1 := HBO.out.done; have h2 := (stR_iff.1 HOK.out.st).1; show 0 ≤ min bb.done (bb.log.length : Int) ∧ min bb.done (bb.log.length : Int) ≤ 64; omega)
      clear h6 k6 e6
      go_wp2_with fail
      refine (told_any H6.out KL2.out).mono ?_
      rintro e w7 ⟨rfl, k7⟩
      have K7 := hid k7
      have H7 := hid (H6.out.far k7)
      clear k7
      have HKK := hid (show k' = (wonR r bb).s.log.length from KL.out)
      have HTD := hid (show toldR (wonR r bb) 6 = ⟨6, 0, 0, 0, (k' : Int), (wonR r bb).s.commit, 0, (wonR r bb).s.log⟩ by unfold toldR; rw [HKK.out])
      go_wp2_with fail
      refine (say_any (m := ⟨6, 0, 0, 0, (k' : Int), (wonR r bb).s.commit, 0, (wonR r bb).s.log⟩) (R := Lg X O) H7.out HOK.out.cfg.1 H7.out.log (fun j hj _ e => by rcases e with e | e; exact hj.1 (H7.out.sub.1 _ (.inl e)); exact hj.2 e) (by have := KL2.out; omega) (fits_right HBO.out.right) ⟨show NumW 6 by decide, numW_of (by have := KL2.out; show _ ≤ (k' : Int) ∧ (k' : Int) ≤ _; omega), numW_of (by have := HBC.out; show _ ≤ (wonR r bb).s.commit ∧ (wonR r bb).s.commit ≤ _; omega), show NumW 0 by decide⟩ ⟨numW_of (by have := HV.out; show _ ≤ r.s.view ∧ r.s.view ≤ _; omega), numW_of (by have := HOK.out.cfg; show _ ≤ r.id ∧ r.id ≤ _; omega)⟩ (by have := HO.out; show r.out.length ≤ _; omega)).mono ?_
      rintro e w8 ⟨O', rfl, h8, ho8, k8⟩
      have H8 := hid h8
      have HO8 := hid ho8
      have K8 := hid k8
      clear h8 ho8 k8
      go_wp2_with fail
      go_end0
      have e1 : decideR r = sayR (wonR r bb) ⟨6, 0, 0, 0, (k' : Int), (wonR r bb).s.commit, 0, (wonR r bb).s.log⟩ := by
        unfold decideR
        rw [if_pos ⟨HCHG.out, HPR.out, by rw [← HCL.out]; exact HHA.out⟩, ← HNN.out, HB.out, HTD.out]
      rw [e1]
      have CZ : Chg (fun j => M4 p b1 b2 b3 j ∨ O.ownBlock = some j) w w7 := (((((CD.out.trans C2.out (fun _ h _ => h)).trans HC.out (fun _ h _ => h)).mono (S' := fun j => M4 p b1 b2 b3 j ∨ O.ownBlock = some j) (fun _ h _ => h.elim)).trans K5.out (fun _ h _ => .inl (.inl h))).trans K6.out (fun _ h _ => .inl h)).trans K7.out (fun _ h _ => h.elim)
      exact ⟨B', k', d', O', rfl, H8.out, fun j hj => (HO8.out j hj).imp id (fun h => Nat.le_trans CZ.size h), CZ.trans K8.out (fun j hj _ => by rcases hj with h | h; exact .inl (.inl h); exact .inr h)⟩
end Go.Proofs.Ytaldoajdhbndhaa.Pa


/- see. -/

namespace Go.Proofs.Ytaldoajdhbndhaa.Pa

set_option linter.unusedVariables false

set_option linter.unusedSimpArgs false

open Go.RowKit Go.Proofs.Ytaldoajdhbndhaa.C

attribute [local go_sem] max2_int min2_int max_two min_two

set_option maxHeartbeats 4000000 in
set_option maxRecDepth 100000 in
theorem see_any {w0 w : World} {p b1 b2 b3 : Nat} {X : Nat → Prop} {r : Rp} {A : Option Addr} {n c : Nat} {O : Value} (h : Rep w0 w p b1 b2 b3 X r A n c O) (hok : RpOk r) (hl : r.chgs.length ≤ 1000) (hsl : r.starts.length ≤ 1000) (ho : r.out.length ≤ 900) :
    Calls Try.prog 89 #[.pointer (some ⟨p, 0, none⟩)] w (RepTo w0 w p b1 b2 b3 X O (.tuple #[]) (seeR r)) := by
  have H := hid h
  have BP := hid h.blk
  have HOK := hid hok
  have HL := hid hl
  have HO := hid ho
  have hst := (stR_iff.1 hok.st).1
  have HV := hid (show 0 ≤ r.s.view ∧ r.s.view ≤ 1099511627776 from ⟨hst.1, hst.2.1⟩)
  have HNM := hid (show 0 ≤ r.s.normal ∧ r.s.normal ≤ 1099511627776 by omega)
  have HCO := hid (show 0 ≤ r.s.commit ∧ r.s.commit ≤ 64 by omega)
  have HN := hid (show n ≤ 64 by have h1 := h.log.1; omega)
  obtain ⟨cl, hcl⟩ : ∃ q_, q_ = r.starts.length := ⟨_, rfl⟩
  have HCL := hid hcl
  have hlen : (Builtin.len_ #[97] 3 #[.map (some b2)]).run Try.prog w = .ok (.int .i64 (cl : Int)) w := by
    have := h.starts.len (P := Try.prog) map_ty2 3
    rw [this, hcl, List.length_map]
  have P_3 : w.cell? ⟨p, 3, none⟩ = some (.int .i64 r.s.view) := (cellAt BP.out 3).trans rfl
  have P_8 : w.cell? ⟨p, 8, none⟩ = some (.bool r.ch) := (cellAt BP.out 8).trans rfl
  have P_10 : w.cell? ⟨p, 10, none⟩ = some (.map (some b2)) := (cellAt BP.out 10).trans rfl
  have P_12 : w.cell? ⟨p, 12, none⟩ = some (.bool r.said) := (cellAt BP.out 12).trans rfl
  have F_12 : w.frozen? ⟨p, 12, none⟩ = false := freeAt BP.out 12
  clear h hok hst hl ho hcl hsl
  go_enter Try.func89, Try.ntmps89
  cases hch : r.ch
  case false =>
    rw [hch] at P_8
    have e1 : seeR r = r := by unfold seeR; rw [if_neg (fun h => by rw [hch] at h; exact absurd h.1 (by decide))]
    clear hch
    go_wp2_with fail
    go_end0
    rw [e1]
    exact ⟨A, n, c, O, rfl, H.out, fun _ h => .inl h, (Chg.refl _ _)⟩
  rw [hch] at P_8
  have HCHG := hid hch
  clear hch
  cases hsd : r.said
  case true =>
    rw [hsd] at P_12
    have e1 : seeR r = r := by unfold seeR; rw [if_neg (fun h => by rw [hsd] at h; exact absurd h.2.1 (by decide))]
    clear hsd
    go_wp2_with fail
    go_end0
    rw [e1]
    exact ⟨A, n, c, O, rfl, H.out, fun _ h => .inl h, (Chg.refl _ _)⟩
  rw [hsd] at P_12
  have HSD := hid hsd
  clear hsd
  go_wp2_with fail
  refine (half_any H.out HOK.out.cfg.1).mono ?_
  rintro e' wy ⟨rfl, rfl⟩
  by_cases hha : halfR r ≤ (cl : Int)
  case neg =>
    have hha2 : (cl : Int) < halfR r := by omega
    have e1 : seeR r = r := by unfold seeR; rw [if_neg (fun h => hha (by rw [HCL.out]; exact h.2.2))]
    clear hha
    go_wp2_with fail
    go_end0
    rw [e1]
    exact ⟨A, n, c, O, rfl, H.out, fun _ h => .inl h, (Chg.refl _ _)⟩
  have HHA := hid hha
  have hha2 : ¬ (cl : Int) < halfR r := by omega
  obtain ⟨W1, hW1⟩ : ∃ q_, q_ = w.setCell ⟨p, 12, none⟩ (.bool true) := ⟨_, rfl⟩
  obtain ⟨r1, hr1⟩ : ∃ q_, q_ = { r with said := true } := ⟨_, rfl⟩
  have K1 := hid (show Chg (fun k => k = p) w W1 by rw [hW1]; exact (Chg.refl (fun k => k = p) w).set (fun _ => rfl) _)
  have H1 := hid (H.out.put (r' := r1) K1.out (by rw [hW1, hr1]; exact blk_set BP.out 12 _) (by rw [hr1]) (by rw [hr1]) (by rw [hr1]) (by rw [hr1]) (by rw [hr1]))
  have HR1 := hid hr1
  have BP1 := hid (show W1.heap[p]? = some (.cells #[.int .i64 r.n, .int .i64 r.id, .int .i64 r.tm, .int .i64 r.s.view, .int .i64 r.s.normal, .int .i64 r.s.commit, .int .i64 r.s.active, .slice A n c, .bool r.ch, .map (some b1), .map (some b2), .map (some b3), .bool true, .int .i64 r.quiet, O] 100 (0, 0)) by rw [hW1]; exact blk_set BP.out 12 _)
  have HW1 := hid hW1
  clear hW1 hr1 hha
  have HCFG1 := hid (show r1.n = 3 ∨ r1.n = 5 ∨ r1.n = 7 by rw [HR1.out]; exact HOK.out.cfg.1)
  have HPRM := hid (show primR r1 r.s.view = primR r r.s.view by rw [HR1.out]; rfl)
  have HOK1 := hid (show RpOk r1 by rw [HR1.out]; exact ⟨HOK.out.cfg, HOK.out.st, HOK.out.ch, HOK.out.acks, HOK.out.starts, HOK.out.chgs, HOK.out.nod⟩)
  go_wp2_with fail
  rw [← HW1.out]
  clear HW1 P_3 P_8 P_10 P_12 F_12 hha2 hlen
  refine (prim_any H1.out HCFG1.out HV.out).mono ?_
  rintro e' wy ⟨rfl, rfl⟩
  rw [HPRM.out]
  have P_1 : W1.cell? ⟨p, 1, none⟩ = some (.int .i64 r.id) := (cellAt BP1.out 1).trans rfl
  by_cases hpr : primR r r.s.view = r.id
  · have hpr2 : (primR r r.s.view != r.id) = false := by simp [hpr]
    have HPR := hid hpr
    clear hpr
    go_wp2_with fail
    refine (decide_any H1.out HOK1.out (by rw [HR1.out]; exact HL.out) (by rw [HR1.out]; exact HO.out)).mono ?_
    rintro e' w3 ⟨A', n', c', O', rfl, h3, ho3, k3⟩
    have H3 := hid h3
    have HO3 := hid ho3
    have K3 := hid k3
    clear h3 ho3 k3
    go_wp2_with fail
    go_end0
    have e1 : seeR r = decideR r1 := by unfold seeR; rw [if_pos ⟨HCHG.out, HSD.out, by rw [← HCL.out]; exact HHA.out⟩, if_pos HPR.out, HR1.out]
    rw [e1]
    have CZ : Chg (fun j => M4 p b1 b2 b3 j ∨ O.ownBlock = some j) w W1 := K1.out.mono (fun _ h _ => .inl (.inl h))
    exact ⟨A', n', c', O', rfl, H3.out, fun j hj => (HO3.out j hj).imp id (fun h => Nat.le_trans CZ.size h), CZ.trans K3.out (fun j hj _ => hj)⟩
  · have hpr2 : (primR r r.s.view != r.id) = true := by simp [hpr]
    have HPR := hid hpr
    clear hpr
    go_wp2_with fail
    clear P_1 hpr2
    refine (told_any H1.out HN.out).mono ?_
    rintro e' w2 ⟨rfl, k2⟩
    have e2 : r1.s.commit = r.s.commit := by rw [HR1.out]
    rw [e2]
    have K2 := hid k2
    have H2 := hid (H1.out.far k2)
    have BP2 := hid (k2.blk BP1.out (fun h => h))
    have hps := lt_of_blk BP2.out
    have hpn : p ≠ w2.heap.size := by omega
    have P_4 : w2.cell? ⟨p, 4, none⟩ = some (.int .i64 r.s.normal) := (cellAt BP2.out 4).trans rfl
    have L1 := hid H.out.log.1
    have HPV := hid (show 0 ≤ primR r r.s.view ∧ primR r r.s.view ≤ 6 from ⟨Int.emod_nonneg _ (by have := HOK.out.cfg; omega), by have := Int.emod_lt_of_pos r.s.view (show 0 < r.n by have := HOK.out.cfg; omega); have := HOK.out.cfg; unfold primR; omega⟩)
    clear k2 e2
    go_wp2_with fail
    clear P_4 hps hpn
    obtain ⟨W3, hW3⟩ : ∃ q_, q_ = w2.alloc (.cells #[.int .i64 5, .int .i64 0, .int .i64 0, .int .i64 0, .int .i64 (n : Int), .int .i64 r.s.commit, .int .i64 r.s.normal, .slice A n c] 41) := ⟨_, rfl⟩
    rw [← hW3]
    have C3 := hid (show Chg (fun _ => False) w2 W3 by rw [hW3]; exact (Chg.refl _ w2).alloc _)
    have H3 := hid (H2.out.far C3.out)
    clear hW3
    have HLG := hid (show Ty.At entryK W3 (Lg X O) A n c r.s.log by have := H3.out.log; rw [HR1.out] at this; exact this)
    refine (send_any (m := ⟨5, 0, 0, 0, (n : Int), r.s.commit, r.s.normal, r.s.log⟩) H3.out HLG.out (by have := HN.out; omega) (fits_right (stR_iff.1 HOK.out.st).2) ⟨show NumW 5 by decide, numW_of (by have := HN.out; show _ ≤ (n : Int) ∧ (n : Int) ≤ _; omega), numW_of (by have := HCO.out; show _ ≤ r.s.commit ∧ r.s.commit ≤ _; omega), numW_of (by have := HNM.out; show _ ≤ r.s.normal ∧ r.s.normal ≤ _; omega)⟩ ⟨by rw [HR1.out]; exact numW_of (by have := HV.out; show _ ≤ r.s.view ∧ r.s.view ≤ _; omega), by rw [HR1.out]; exact numW_of (by have := HOK.out.cfg; show _ ≤ r.id ∧ r.id ≤ _; omega), numW_of (by have := HPV.out; omega)⟩ (by rw [HR1.out]; have := HO.out; show r.out.length ≤ _; omega)).mono ?_
    rintro e w4 ⟨O', rfl, h4, ho4, k4⟩
    have H4 := hid h4
    have HO4 := hid ho4
    have K4 := hid k4
    clear h4 ho4 k4
    go_wp2_with fail
    go_end0
    have e1 : seeR r = sendR r1 (primR r r.s.view) ⟨5, 0, 0, 0, (n : Int), r.s.commit, r.s.normal, r.s.log⟩ := by
      unfold seeR
      rw [if_pos ⟨HCHG.out, HSD.out, by rw [← HCL.out]; exact HHA.out⟩, if_neg HPR.out, HR1.out]
      unfold toldR
      rw [L1.out]
    rw [e1]
    have CZ : Chg (fun j => M4 p b1 b2 b3 j ∨ O.ownBlock = some j) w W3 := ((K1.out.mono (S' := fun j => M4 p b1 b2 b3 j ∨ O.ownBlock = some j) (fun _ h _ => .inl (.inl h))).trans K2.out (fun _ h _ => h.elim)).trans C3.out (fun _ h _ => h.elim)
    exact ⟨A, n, c, O', rfl, H4.out, fun j hj => (HO4.out j hj).imp id (fun h => Nat.le_trans CZ.size h), CZ.trans K4.out (fun j hj _ => by rcases hj with h | h; exact .inl (.inl h); exact .inr h)⟩
end Go.Proofs.Ytaldoajdhbndhaa.Pa


/- turn. -/

namespace Go.Proofs.Ytaldoajdhbndhaa.Pa

set_option linter.unusedVariables false

set_option linter.unusedSimpArgs false

open Go.RowKit Go.Proofs.Ytaldoajdhbndhaa.C

attribute [local go_sem] max2_int min2_int max_two min_two

/-- The end of turn: a map was set, and a function called. -/
theorem turn_end {w0 w wc wd we : World} {p b1 b2 b3 q : Nat} {X : Nat → Prop} {r : Rp} {A : Option Addr} {n c : Nat} {O O1 O' : Value} (KC : Chg (fun j => M4 p b1 b2 b3 j ∨ O.ownBlock = some j) w wc) (HO1 : ∀ j, O1.ownBlock = some j → O.ownBlock = some j ∨ w.heap.size ≤ j) (KD : Chg (fun k => k = q) wc.drew wd) (HE : Rep w0 we p b1 b2 b3 X r A n c O') (HOE : ∀ k, O'.ownBlock = some k → O1.ownBlock = some k ∨ wd.heap.size ≤ k) (KE : Chg (fun k => M4 p b1 b2 b3 k ∨ O1.ownBlock = some k) wd we) (hq : M4 p b1 b2 b3 q) :
    RepTo w0 w p b1 b2 b3 X O (.tuple #[]) r (.returned (.tuple #[])) we := by
  have C2 : Chg (fun j => M4 p b1 b2 b3 j ∨ O.ownBlock = some j) w wd := (KC.drew).trans KD (fun j h _ => .inl (by rw [h]; exact hq))
  refine ⟨A, n, c, O', rfl, HE, fun j hj => ?_, C2.trans KE (fun j hj hl => ?_)⟩
  · rcases HOE j hj with h | h
    · exact HO1 j h
    · exact .inr (Nat.le_trans C2.size h)
  · rcases hj with h | h
    · exact .inl h
    · rcases HO1 j h with h | h
      · exact .inr h
      · omega
set_option maxHeartbeats 4000000 in
set_option maxRecDepth 100000 in
theorem turn4_any {w0 w : World} {p b1 b2 b3 : Nat} {X : Nat → Prop} {r : Rp} {A : Option Addr} {n c : Nat} {O : Value} (h : Rep w0 w p b1 b2 b3 X r A n c O) {m : Msg} {R : Nat → Prop} {B : Option Addr} {k d : Nat} (hm : Ty.At entryK w R B k d m.log) (hR : ∀ j, R j → j < w.heap.size → ¬ (M4 p b1 b2 b3 j ∨ O.ownBlock = some j)) (hok : RpOk r) (hmr : msgR m = true) (hs : 0 ≤ m.src ∧ m.src < r.n) (ho : r.out.length ≤ 700) (hk : m.kind = 4) :
    Calls Try.prog 51 #[.pointer (some ⟨p, 0, none⟩), .agg #[.int .i64 m.kind, .int .i64 m.view, .int .i64 m.src, .int .i64 m.dst, .int .i64 m.op, .int .i64 m.commit, .int .i64 m.normal, .slice B k d]] w (RepTo w0 w p b1 b2 b3 X O (.tuple #[]) (turnR r m)) := by
  obtain ⟨w1, hw1⟩ : ∃ q_, q_ = (w.alloc (.cells #[.int .i64 m.kind, .int .i64 m.view, .int .i64 m.src, .int .i64 m.dst, .int .i64 m.op, .int .i64 m.commit, .int .i64 m.normal, .slice B k d] 41)) := ⟨_, rfl⟩
  have C1 := hid (show Chg (fun _ => False) w w1 by rw [hw1]; exact (Chg.refl _ w).alloc _)
  have BX := hid (show w1.heap[w.heap.size]? = some (.cells #[.int .i64 m.kind, .int .i64 m.view, .int .i64 m.src, .int .i64 m.dst, .int .i64 m.op, .int .i64 m.commit, .int .i64 m.normal, .slice B k d] 41 (0, 0)) by
    rw [hw1]
    have := blk_new w (.cells #[.int .i64 m.kind, .int .i64 m.view, .int .i64 m.src, .int .i64 m.dst, .int .i64 m.op, .int .i64 m.commit, .int .i64 m.normal, .slice B k d] 41)
    simpa using this)
  have SZ := hid (show w1.heap.size = w.heap.size + 1 by rw [hw1]; simp)
  have H1 := hid (h.far C1.out)
  obtain ⟨b, hb⟩ : ∃ q_, q_ = w.heap.size := ⟨_, rfl⟩
  have HBb := hid hb
  replace BX := hid (show w1.heap[b]? = some (.cells #[.int .i64 m.kind, .int .i64 m.view, .int .i64 m.src, .int .i64 m.dst, .int .i64 m.op, .int .i64 m.commit, .int .i64 m.normal, .slice B k d] 41 (0, 0)) by rw [hb]; exact BX.out)
  have HSZ := hid (show w1.heap.size = b + 1 by rw [hb]; exact SZ.out)
  have HPB := hid (show p < b by rw [hb]; exact lt_of_blk h.blk)
  have HW0 := hid (show w0.heap.size ≤ b by rw [hb]; exact h.sz)
  have HM := hid (hm.bound.chg C1.out (fun _ _ h => h))
  have HR := hid hR
  have HOK := hid hok
  have HMR := hid hmr
  have HS := hid hs
  have HO := hid ho
  have HKD := hid hk
  have HSW := hid (show (Lit.int .i64 m.src).wf = true from numW_of (by have := (msgR_num hmr).2.2.2.1; omega))
  have HVW := hid (show NumW m.view from numW_of (by have := (msgR_num hmr).2.1; omega))
  have HIW := hid (show NumW r.id from numW_of (by have := hok.cfg; omega))
  have BP := hid H1.out.blk
  have HOB := hid h.outB
  have HMB := hid (show ¬ (M4 p b1 b2 b3 b ∨ O.ownBlock = some b) from fun e => by rcases e with e | e; have h4 := h.sub.2 b (h.sub.1 b e); have := HW0.out; omega; have := (HOB.out b e).2; omega)
  clear h hm hR hok hmr hs ho hk
  go_enter Try.func51, Try.ntmps51
  go_wp2_with fail
  rw [← hw1, ← hb]
  clear hw1 hb SZ
  have U_1 : ∀ wx, Chg (fun _ => False) w1 wx → wx.cell? ⟨p, 1, none⟩ = some (.int .i64 r.id) := fun wx hx => (cellAt (hx.blk BP.out (fun h => h)) 1).trans rfl
  have U_3 : ∀ wx, Chg (fun _ => False) w1 wx → wx.cell? ⟨p, 3, none⟩ = some (.int .i64 r.s.view) := fun wx hx => (cellAt (hx.blk BP.out (fun h => h)) 3).trans rfl
  have X_0 : ∀ wx, Chg (fun _ => False) w1 wx → wx.cell? ⟨b, 0, none⟩ = some (.int .i64 m.kind) := fun wx hx => (cellAt (hx.blk BX.out (fun h => h)) 0).trans rfl
  have X_1 : ∀ wx, Chg (fun _ => False) w1 wx → wx.cell? ⟨b, 1, none⟩ = some (.int .i64 m.view) := fun wx hx => (cellAt (hx.blk BX.out (fun h => h)) 1).trans rfl
  rw [HKD.out] at X_0
  refine wpB_start (fun wx : World => Chg (fun _ => False) w1 wx) (by kernel_rfl) ?_
  have hHeld : (fun wx : World => Chg (fun _ => False) w1 wx) _ := (Chg.refl (fun _ => False) w1).drew
  -- 0: t4 := fieldAddr 41 t3 0 : 0
  refine wpB_take (i := 0) (v := ?_) (get_of_drop rfl) (by kernel_rfl) (by kernel_rfl) (by kernel_rfl) (by kernel_rfl) (fun _ _ _ h => h) (Or.inl ⟨by rfl, ?_⟩) hHeld ?_
  rotate_left
  · (intro w hSw; (try dsimp only at hSw); go_simp <;> with_reducible rfl)
  try simp only [Act.put, List.setIfInBounds_toArray, List.set_cons_zero, List.set_cons_succ]
  -- 1: t5 := load 3 t4 : 3
  refine wpB_take (i := 1) (v := ?_) (get_of_drop rfl) (by kernel_rfl) (by kernel_rfl) (by kernel_rfl) (by kernel_rfl) (fun _ _ _ h => h) (Or.inl ⟨by rfl, ?_⟩) hHeld ?_
  rotate_left
  · (intro w hSw; (try dsimp only at hSw); go_simp <;> with_reducible rfl)
  try simp only [Act.put, List.setIfInBounds_toArray, List.set_cons_zero, List.set_cons_succ]
  -- 2: t6 := binOp BinOp.eql 3 t5 #i64:5 3 : 4
  refine wpB_take (i := 2) (v := ?_) (get_of_drop rfl) (by kernel_rfl) (by kernel_rfl) (by kernel_rfl) (by kernel_rfl) (fun _ _ _ h => h) (Or.inl ⟨by rfl, ?_⟩) hHeld ?_
  rotate_left
  · (intro w hSw; (try dsimp only at hSw); go_simp <;> with_reducible rfl)
  try simp only [Act.put, List.setIfInBounds_toArray, List.set_cons_zero, List.set_cons_succ]
  -- 3: t7 := move t6 : 4
  refine wpB_take (i := 3) (v := ?_) (get_of_drop rfl) (by kernel_rfl) (by kernel_rfl) (by kernel_rfl) (by kernel_rfl) (fun _ _ _ h => h) (Or.inl ⟨by rfl, ?_⟩) hHeld ?_
  rotate_left
  · (intro w hSw; (try dsimp only at hSw); go_simp <;> with_reducible rfl)
  try simp only [Act.put, List.setIfInBounds_toArray, List.set_cons_zero, List.set_cons_succ]
  -- 4: t8 := move t0 : 30   [if ⟨3, true⟩]
  refine wpB_take (i := 4) (v := undef) (get_of_drop rfl) (by kernel_rfl) (by kernel_rfl) (by kernel_rfl) (by kernel_rfl) (fun _ _ _ h => h) (Or.inr ⟨by rfl, rfl⟩) hHeld ?_
  try simp only [Act.put, List.setIfInBounds_toArray, List.set_cons_zero, List.set_cons_succ]
  -- 5: t9 := fieldAddr 41 t3 1 : 0   [if ⟨3, true⟩]
  refine wpB_take (i := 5) (v := undef) (get_of_drop rfl) (by kernel_rfl) (by kernel_rfl) (by kernel_rfl) (by kernel_rfl) (fun _ _ _ h => h) (Or.inr ⟨by rfl, rfl⟩) hHeld ?_
  try simp only [Act.put, List.setIfInBounds_toArray, List.set_cons_zero, List.set_cons_succ]
  -- 6: t10 := load 3 t9 : 3   [if ⟨3, true⟩]
  refine wpB_take (i := 6) (v := undef) (get_of_drop rfl) (by kernel_rfl) (by kernel_rfl) (by kernel_rfl) (by kernel_rfl) (fun _ _ _ h => h) (Or.inr ⟨by rfl, rfl⟩) hHeld ?_
  try simp only [Act.put, List.setIfInBounds_toArray, List.set_cons_zero, List.set_cons_succ]
  -- 7: t11 := CALL fn48(t8, t10) : 3   [if ⟨3, true⟩]
  refine wpB_take (i := 7) (v := undef) (get_of_drop rfl) (by kernel_rfl) (by kernel_rfl) (by kernel_rfl) (by kernel_rfl) (fun _ _ _ h => h) (Or.inr ⟨by rfl, rfl⟩) hHeld ?_
  try simp only [Act.put, List.setIfInBounds_toArray, List.set_cons_zero, List.set_cons_succ]
  -- 8: t12 := move t0 : 30   [if ⟨3, true⟩]
  refine wpB_take (i := 8) (v := undef) (get_of_drop rfl) (by kernel_rfl) (by kernel_rfl) (by kernel_rfl) (by kernel_rfl) (fun _ _ _ h => h) (Or.inr ⟨by rfl, rfl⟩) hHeld ?_
  try simp only [Act.put, List.setIfInBounds_toArray, List.set_cons_zero, List.set_cons_succ]
  -- 9: t13 := nilCheck t12 : 0   [if ⟨3, true⟩]
  refine wpB_take (i := 9) (v := undef) (get_of_drop rfl) (by kernel_rfl) (by kernel_rfl) (by kernel_rfl) (by kernel_rfl) (fun _ _ _ h => h) (Or.inr ⟨by rfl, rfl⟩) hHeld ?_
  try simp only [Act.put, List.setIfInBounds_toArray, List.set_cons_zero, List.set_cons_succ]
  -- 10: t14 := fieldAddr 100 t13 0 : 0   [if ⟨3, true⟩]
  refine wpB_take (i := 10) (v := undef) (get_of_drop rfl) (by kernel_rfl) (by kernel_rfl) (by kernel_rfl) (by kernel_rfl) (fun _ _ _ h => h) (Or.inr ⟨by rfl, rfl⟩) hHeld ?_
  try simp only [Act.put, List.setIfInBounds_toArray, List.set_cons_zero, List.set_cons_succ]
  -- 11: t15 := fieldAddr 23 t14 1 : 0   [if ⟨3, true⟩]
  refine wpB_take (i := 11) (v := undef) (get_of_drop rfl) (by kernel_rfl) (by kernel_rfl) (by kernel_rfl) (by kernel_rfl) (fun _ _ _ h => h) (Or.inr ⟨by rfl, rfl⟩) hHeld ?_
  try simp only [Act.put, List.setIfInBounds_toArray, List.set_cons_zero, List.set_cons_succ]
  -- 12: t16 := load 3 t15 : 3   [if ⟨3, true⟩]
  refine wpB_take (i := 12) (v := undef) (get_of_drop rfl) (by kernel_rfl) (by kernel_rfl) (by kernel_rfl) (by kernel_rfl) (fun _ _ _ h => h) (Or.inr ⟨by rfl, rfl⟩) hHeld ?_
  try simp only [Act.put, List.setIfInBounds_toArray, List.set_cons_zero, List.set_cons_succ]
  -- 13: t17 := binOp BinOp.neq 3 t11 t16 3 : 4   [if ⟨3, true⟩]
  refine wpB_take (i := 13) (v := undef) (get_of_drop rfl) (by kernel_rfl) (by kernel_rfl) (by kernel_rfl) (by kernel_rfl) (fun _ _ _ h => h) (Or.inr ⟨by rfl, rfl⟩) hHeld ?_
  try simp only [Act.put, List.setIfInBounds_toArray, List.set_cons_zero, List.set_cons_succ]
  -- 14: t18 := pick t7 t17 #false : 4
  refine wpB_take (i := 14) (v := ?_) (get_of_drop rfl) (by kernel_rfl) (by kernel_rfl) (by kernel_rfl) (by kernel_rfl) (fun _ _ _ h => h) (Or.inl ⟨by rfl, ?_⟩) hHeld ?_
  rotate_left
  · (intro w hSw; (try dsimp only at hSw); go_simp <;> with_reducible rfl)
  try simp only [Act.put, List.setIfInBounds_toArray, List.set_cons_zero, List.set_cons_succ]
  refine wpB_done (by kernel_rfl) ?_ _
  go_wp2_with fail
  obtain ⟨wa, hwa⟩ : ∃ q_, q_ = w1.drew := ⟨_, rfl⟩
  rw [← hwa]
  have CA := hid (show Chg (fun _ => False) w wa by rw [hwa]; exact C1.out.drew)
  have HA := hid (show Rep w0 wa p b1 b2 b3 X r A n c O by rw [hwa]; exact H1.out.far ((Chg.refl (fun _ => False) w1).drew))
  have BXa := hid (show wa.heap[b]? = some (.cells #[.int .i64 m.kind, .int .i64 m.view, .int .i64 m.src, .int .i64 m.dst, .int .i64 m.op, .int .i64 m.commit, .int .i64 m.normal, .slice B k d] 41 (0, 0)) by rw [hwa]; exact blk_drew BX.out)
  have BPa := hid HA.out.blk
  clear hwa hHeld U_1 U_3 X_0 X_1
  have U_3 : ∀ wx, Chg (fun _ => False) wa wx → wx.cell? ⟨p, 3, none⟩ = some (.int .i64 r.s.view) := fun wx hx => (cellAt (hx.blk BPa.out (fun h => h)) 3).trans rfl
  have X_1 : ∀ wx, Chg (fun _ => False) wa wx → wx.cell? ⟨b, 1, none⟩ = some (.int .i64 m.view) := fun wx hx => (cellAt (hx.blk BXa.out (fun h => h)) 1).trans rfl
  refine wpB_start (fun wx : World => Chg (fun _ => False) wa wx) (by kernel_rfl) ?_
  have hHeld : (fun wx : World => Chg (fun _ => False) wa wx) _ := (Chg.refl (fun _ => False) wa).drew
  -- 0: t19 := fieldAddr 41 t3 1 : 0
  refine wpB_take (i := 0) (v := ?_) (get_of_drop rfl) (by kernel_rfl) (by kernel_rfl) (by kernel_rfl) (by kernel_rfl) (fun _ _ _ h => h) (Or.inl ⟨by rfl, ?_⟩) hHeld ?_
  rotate_left
  · (intro w hSw; (try dsimp only at hSw); go_simp <;> with_reducible rfl)
  try simp only [Act.put, List.setIfInBounds_toArray, List.set_cons_zero, List.set_cons_succ]
  -- 1: t20 := load 3 t19 : 3
  refine wpB_take (i := 1) (v := ?_) (get_of_drop rfl) (by kernel_rfl) (by kernel_rfl) (by kernel_rfl) (by kernel_rfl) (fun _ _ _ h => h) (Or.inl ⟨by rfl, ?_⟩) hHeld ?_
  rotate_left
  · (intro w hSw; (try dsimp only at hSw); go_simp <;> with_reducible rfl)
  try simp only [Act.put, List.setIfInBounds_toArray, List.set_cons_zero, List.set_cons_succ]
  -- 2: t21 := move t0 : 30
  refine wpB_take (i := 2) (v := ?_) (get_of_drop rfl) (by kernel_rfl) (by kernel_rfl) (by kernel_rfl) (by kernel_rfl) (fun _ _ _ h => h) (Or.inl ⟨by rfl, ?_⟩) hHeld ?_
  rotate_left
  · (intro w hSw; (try dsimp only at hSw); go_simp <;> with_reducible rfl)
  try simp only [Act.put, List.setIfInBounds_toArray, List.set_cons_zero, List.set_cons_succ]
  -- 3: t22 := nilCheck t21 : 0
  refine wpB_take (i := 3) (v := ?_) (get_of_drop rfl) (by kernel_rfl) (by kernel_rfl) (by kernel_rfl) (by kernel_rfl) (fun _ _ _ h => h) (Or.inl ⟨by rfl, ?_⟩) hHeld ?_
  rotate_left
  · (intro w hSw; (try dsimp only at hSw); go_simp <;> with_reducible rfl)
  try simp only [Act.put, List.setIfInBounds_toArray, List.set_cons_zero, List.set_cons_succ]
  -- 4: t23 := fieldAddr 100 t22 1 : 0
  refine wpB_take (i := 4) (v := ?_) (get_of_drop rfl) (by kernel_rfl) (by kernel_rfl) (by kernel_rfl) (by kernel_rfl) (fun _ _ _ h => h) (Or.inl ⟨by rfl, ?_⟩) hHeld ?_
  rotate_left
  · (intro w hSw; (try dsimp only at hSw); go_simp <;> with_reducible rfl)
  try simp only [Act.put, List.setIfInBounds_toArray, List.set_cons_zero, List.set_cons_succ]
  -- 5: t24 := fieldAddr 26 t23 0 : 0
  refine wpB_take (i := 5) (v := ?_) (get_of_drop rfl) (by kernel_rfl) (by kernel_rfl) (by kernel_rfl) (by kernel_rfl) (fun _ _ _ h => h) (Or.inl ⟨by rfl, ?_⟩) hHeld ?_
  rotate_left
  · (intro w hSw; (try dsimp only at hSw); go_simp <;> with_reducible rfl)
  try simp only [Act.put, List.setIfInBounds_toArray, List.set_cons_zero, List.set_cons_succ]
  -- 6: t25 := load 3 t24 : 3
  refine wpB_take (i := 6) (v := ?_) (get_of_drop rfl) (by kernel_rfl) (by kernel_rfl) (by kernel_rfl) (by kernel_rfl) (fun _ _ _ h => h) (Or.inl ⟨by rfl, ?_⟩) hHeld ?_
  rotate_left
  · (intro w hSw; (try dsimp only at hSw); go_simp <;> with_reducible rfl)
  try simp only [Act.put, List.setIfInBounds_toArray, List.set_cons_zero, List.set_cons_succ]
  -- 7: t26 := binOp BinOp.gtr 3 t20 t25 3 : 4
  refine wpB_take (i := 7) (v := ?_) (get_of_drop rfl) (by kernel_rfl) (by kernel_rfl) (by kernel_rfl) (by kernel_rfl) (fun _ _ _ h => h) (Or.inl ⟨by rfl, ?_⟩) hHeld ?_
  rotate_left
  · (intro w hSw; (try dsimp only at hSw); go_simp <;> with_reducible rfl)
  try simp only [Act.put, List.setIfInBounds_toArray, List.set_cons_zero, List.set_cons_succ]
  refine wpB_done (by kernel_rfl) ?_ _
  obtain ⟨wb, hwb⟩ : ∃ q_, q_ = wa.drew := ⟨_, rfl⟩
  rw [← hwb]
  have CB := hid (show Chg (fun _ => False) w wb by rw [hwb]; exact CA.out.drew)
  have HB := hid (show Rep w0 wb p b1 b2 b3 X r A n c O by rw [hwb]; exact HA.out.far ((Chg.refl (fun _ => False) wa).drew))
  have BXb := hid (show wb.heap[b]? = some (.cells #[.int .i64 m.kind, .int .i64 m.view, .int .i64 m.src, .int .i64 m.dst, .int .i64 m.op, .int .i64 m.commit, .int .i64 m.normal, .slice B k d] 41 (0, 0)) by rw [hwb]; exact blk_drew BXa.out)
  clear hwb hHeld
  clear U_3 X_1
  have hN : ¬ (m.kind = 5 ∧ primR r m.view ≠ r.id) := fun h => absurd (h.1.symm.trans HKD.out) (by decide)
  have HNP := hid hN
  clear hN
  by_cases hvl : r.s.view < m.view
  · have HVL := hid hvl
    have X_1 : wb.cell? ⟨b, 1, none⟩ = some (.int .i64 m.view) := (cellAt BXb.out 1).trans rfl
    go_wp2_with fail
    clear X_1
    refine (begin_any HB.out HOK.out.cfg.1 ⟨HVW.out, HIW.out⟩ (by have := HO.out; omega)).mono ?_
    rintro e wc ⟨O1, rfl, hc, hoc, kc⟩
    have HOC := hid hoc
    have KC := hid (show Chg (fun j => M4 p b1 b2 b3 j ∨ O.ownBlock = some j) w wc from (CB.out.mono (S' := fun j => M4 p b1 b2 b3 j ∨ O.ownBlock = some j) (fun _ h _ => h.elim)).trans kc (fun _ h _ => h))
    have BXc := hid (kc.blk BXb.out HMB.out)
    have HO1 := hid (show ∀ j, O1.ownBlock = some j → O.ownBlock = some j ∨ w.heap.size ≤ j from fun j hj => (hoc j hj).imp id (fun h => Nat.le_trans CB.out.size h))
    have HOK1 := hid (HOK.out.begin_ (v := m.view) ⟨HVL.out, (msgR_num HMR.out).2.1.2⟩)
    obtain ⟨lb, hlb, hlb2⟩ := beginR_eq HOK.out m.view
    obtain ⟨r1, hr1⟩ : ∃ q_, q_ = beginR r m.view := ⟨_, rfl⟩
    rw [← hr1] at hc HOK1
    have HRR := hid (show turnR r m = turn2R r1 m by unfold turnR; rw [if_neg HNP.out, if_pos HVL.out, hr1])
    have hch1 : r1.ch = true := by rw [hr1, hlb]; rfl
    have HN1 := hid (show r1.n = r.n by rw [hr1, hlb]; rfl)
    have HOU := hid (show r1.out.length ≤ 710 by rw [hr1, hlb]; have := HO.out; simp; omega)
    have H2 := hid hc
    clear hc hoc kc hr1 hlb hlb2
    have BP2 := hid H2.out.blk
    have IS := hid H2.out.starts
    obtain ⟨wd, hrd, gd, kd⟩ := (IS.out.chg ((Chg.refl (fun _ => False) wc).drew) (fun h => h)).update (P := Try.prog) map_ty2 Try.underlying3 HSW.out (.bool true) (by have := HOK1.out.lens; simp; omega)
    have HRD := hid hrd
    have H3 := hid ((H2.out.far ((Chg.refl (fun _ => False) wc).drew)).starts_set kd gd)
    have KD := hid kd
    clear hrd gd kd
    have P_8 : wc.cell? ⟨p, 8, none⟩ = some (.bool true) := by rw [← hch1]; exact (cellAt BP2.out 8).trans rfl
    have X_0 : wc.cell? ⟨b, 0, none⟩ = some (.int .i64 4) := by rw [← HKD.out]; exact (cellAt BXc.out 0).trans rfl
    have HCH1 := hid hch1
    clear hch1
    go_wp2_with fail
    clear P_8 X_0
    have hrU := HRD.out
    have U_10 : ∀ wx, Chg (fun _ => False) wc wx → wx.cell? ⟨p, 10, none⟩ = some (.map (some b2)) := fun wx hx => (cellAt (hx.blk BP2.out (fun h => h)) 10).trans rfl
    have X_2 : ∀ wx, Chg (fun _ => False) wc wx → wx.cell? ⟨b, 2, none⟩ = some (.int .i64 m.src) := fun wx hx => (cellAt (hx.blk BXc.out (fun h => h)) 2).trans rfl
    refine wpB_start (fun wx : World => Chg (fun _ => False) wc wx) (by kernel_rfl) ?_
    have hHeld : (fun wx : World => Chg (fun _ => False) wc wx) _ := (Chg.refl (fun _ => False) wc).drew
    -- 0: t41 := move t0 : 30
    refine wpB_take (i := 0) (v := ?_) (get_of_drop rfl) (by kernel_rfl) (by kernel_rfl) (by kernel_rfl) (by kernel_rfl) (fun _ _ _ h => h) (Or.inl ⟨by rfl, ?_⟩) hHeld ?_
    rotate_left
    · (intro w hSw; (try dsimp only at hSw); go_simp <;> with_reducible rfl)
    try simp only [Act.put, List.setIfInBounds_toArray, List.set_cons_zero, List.set_cons_succ]
    -- 1: t42 := nilCheck t41 : 0
    refine wpB_take (i := 1) (v := ?_) (get_of_drop rfl) (by kernel_rfl) (by kernel_rfl) (by kernel_rfl) (by kernel_rfl) (fun _ _ _ h => h) (Or.inl ⟨by rfl, ?_⟩) hHeld ?_
    rotate_left
    · (intro w hSw; (try dsimp only at hSw); go_simp <;> with_reducible rfl)
    try simp only [Act.put, List.setIfInBounds_toArray, List.set_cons_zero, List.set_cons_succ]
    -- 2: t43 := fieldAddr 100 t42 4 : 0
    refine wpB_take (i := 2) (v := ?_) (get_of_drop rfl) (by kernel_rfl) (by kernel_rfl) (by kernel_rfl) (by kernel_rfl) (fun _ _ _ h => h) (Or.inl ⟨by rfl, ?_⟩) hHeld ?_
    rotate_left
    · (intro w hSw; (try dsimp only at hSw); go_simp <;> with_reducible rfl)
    try simp only [Act.put, List.setIfInBounds_toArray, List.set_cons_zero, List.set_cons_succ]
    -- 3: t44 := load 97 t43 : 97
    refine wpB_take (i := 3) (v := ?_) (get_of_drop rfl) (by kernel_rfl) (by kernel_rfl) (by kernel_rfl) (by kernel_rfl) (fun _ _ _ h => h) (Or.inl ⟨by rfl, ?_⟩) hHeld ?_
    rotate_left
    · (intro w hSw; (try dsimp only at hSw); go_simp <;> with_reducible rfl)
    try simp only [Act.put, List.setIfInBounds_toArray, List.set_cons_zero, List.set_cons_succ]
    -- 4: t45 := fieldAddr 41 t3 2 : 0
    refine wpB_take (i := 4) (v := ?_) (get_of_drop rfl) (by kernel_rfl) (by kernel_rfl) (by kernel_rfl) (by kernel_rfl) (fun _ _ _ h => h) (Or.inl ⟨by rfl, ?_⟩) hHeld ?_
    rotate_left
    · (intro w hSw; (try dsimp only at hSw); go_simp <;> with_reducible rfl)
    try simp only [Act.put, List.setIfInBounds_toArray, List.set_cons_zero, List.set_cons_succ]
    -- 5: t46 := load 3 t45 : 3
    refine wpB_take (i := 5) (v := ?_) (get_of_drop rfl) (by kernel_rfl) (by kernel_rfl) (by kernel_rfl) (by kernel_rfl) (fun _ _ _ h => h) (Or.inl ⟨by rfl, ?_⟩) hHeld ?_
    rotate_left
    · (intro w hSw; (try dsimp only at hSw); go_simp <;> with_reducible rfl)
    try simp only [Act.put, List.setIfInBounds_toArray, List.set_cons_zero, List.set_cons_succ]
    -- 6: t- := mapUpdate 97 t44 t46 #true : 0 (BARRIER)
    refine wpB_bar (i := 6) (by kernel_rfl) (get_of_drop rfl) (by kernel_rfl) (fun K hK => ?_)
    go_simp
    refine hK.out _ _ (fun _ : World => True) ?_
    clear hHeld hK K
    have hHeld := trivial
    try simp only [Act.put, List.setIfInBounds_toArray, List.set_cons_zero, List.set_cons_succ]
    refine wpB_done (by kernel_rfl) ?_ _
    clear hrU U_10 X_2 hHeld
    have HOK3 := hid (HOK1.out.start (k := m.src) (by rw [HN1.out]; exact HS.out) true)
    go_wp2_with fail
    refine (see_any H3.out HOK3.out (by have := HOK3.out.lens; omega) (by have := HOK3.out.lens; omega) (by have := HOU.out; show r1.out.length ≤ _; omega)).mono ?_
    rintro e we ⟨A', n', c', O', rfl, he, hoe, ke⟩
    have HE := hid he
    have HOE := hid hoe
    have KE := hid ke
    clear he hoe ke
    go_wp2_with fail
    go_end0
    have e1 : turnR r m = seeR { r1 with starts := ups m.src true r1.starts } := by rw [HRR.out]; unfold turn2R; rw [if_pos ⟨HKD.out, HCH1.out⟩]
    rw [e1]
    exact turn_end KC.out HO1.out KD.out HE.out HOE.out KE.out (.inr (.inr (.inl rfl)))
  · have HVL := hid hvl
    obtain ⟨wc, hwc⟩ : ∃ q_, q_ = wb := ⟨_, rfl⟩
    rw [← hwc]
    have KC := hid (show Chg (fun j => M4 p b1 b2 b3 j ∨ O.ownBlock = some j) w wc by rw [hwc]; exact CB.out.mono (fun _ h _ => h.elim))
    have BXc := hid (show wc.heap[b]? = some (.cells #[.int .i64 m.kind, .int .i64 m.view, .int .i64 m.src, .int .i64 m.dst, .int .i64 m.op, .int .i64 m.commit, .int .i64 m.normal, .slice B k d] 41 (0, 0)) by rw [hwc]; exact BXb.out)
    obtain ⟨O1, hO1⟩ : ∃ q_, q_ = O := ⟨_, rfl⟩
    have HO1 := hid (show ∀ j, O1.ownBlock = some j → O.ownBlock = some j ∨ w.heap.size ≤ j from fun j hj => .inl (by rw [← hO1]; exact hj))
    obtain ⟨r1, hr1⟩ : ∃ q_, q_ = r := ⟨_, rfl⟩
    have HOK1 := hid (show RpOk r1 by rw [hr1]; exact HOK.out)
    have HRR := hid (show turnR r m = turn2R r1 m by unfold turnR; rw [if_neg HNP.out, if_neg HVL.out, hr1])
    have HN1 := hid (show r1.n = r.n by rw [hr1])
    have HOU := hid (show r1.out.length ≤ 710 by rw [hr1]; have := HO.out; omega)
    have H2 := hid (show Rep w0 wc p b1 b2 b3 X r1 A n c O1 by rw [hwc, hr1, hO1]; exact HB.out)
    cases hch : r.ch
    · have hch1 : r1.ch = false := by rw [hr1]; exact hch
      clear hch
      clear hwc hO1 hr1
      have BP2 := hid H2.out.blk
      have P_8 : wc.cell? ⟨p, 8, none⟩ = some (.bool false) := by rw [← hch1]; exact (cellAt BP2.out 8).trans rfl
      have X_0 : wc.cell? ⟨b, 0, none⟩ = some (.int .i64 4) := by rw [← HKD.out]; exact (cellAt BXc.out 0).trans rfl
      have HCH1 := hid hch1
      clear hch1
      go_wp2_with fail
      go_end0
      have e1 : turnR r m = r1 := by rw [HRR.out]; unfold turn2R; rw [if_neg (fun h => by rw [HCH1.out] at h; exact absurd h.2 (by decide)), if_neg (fun h => absurd (h.1.symm.trans HKD.out) (by decide)), if_neg (fun h => absurd (h.symm.trans HKD.out) (by decide))]
      rw [e1]
      exact ⟨A, n, c, O1, rfl, H2.out, HO1.out, KC.out⟩
    · have hch1 : r1.ch = true := by rw [hr1]; exact hch
      clear hch
      clear hwc hO1 hr1
      have BP2 := hid H2.out.blk
      have IS := hid H2.out.starts
      obtain ⟨wd, hrd, gd, kd⟩ := (IS.out.chg ((Chg.refl (fun _ => False) wc).drew) (fun h => h)).update (P := Try.prog) map_ty2 Try.underlying3 HSW.out (.bool true) (by have := HOK1.out.lens; simp; omega)
      have HRD := hid hrd
      have H3 := hid ((H2.out.far ((Chg.refl (fun _ => False) wc).drew)).starts_set kd gd)
      have KD := hid kd
      clear hrd gd kd
      have P_8 : wc.cell? ⟨p, 8, none⟩ = some (.bool true) := by rw [← hch1]; exact (cellAt BP2.out 8).trans rfl
      have X_0 : wc.cell? ⟨b, 0, none⟩ = some (.int .i64 4) := by rw [← HKD.out]; exact (cellAt BXc.out 0).trans rfl
      have HCH1 := hid hch1
      clear hch1
      go_wp2_with fail
      clear P_8 X_0
      have hrU := HRD.out
      have U_10 : ∀ wx, Chg (fun _ => False) wc wx → wx.cell? ⟨p, 10, none⟩ = some (.map (some b2)) := fun wx hx => (cellAt (hx.blk BP2.out (fun h => h)) 10).trans rfl
      have X_2 : ∀ wx, Chg (fun _ => False) wc wx → wx.cell? ⟨b, 2, none⟩ = some (.int .i64 m.src) := fun wx hx => (cellAt (hx.blk BXc.out (fun h => h)) 2).trans rfl
      refine wpB_start (fun wx : World => Chg (fun _ => False) wc wx) (by kernel_rfl) ?_
      have hHeld : (fun wx : World => Chg (fun _ => False) wc wx) _ := (Chg.refl (fun _ => False) wc).drew
      -- 0: t41 := move t0 : 30
      refine wpB_take (i := 0) (v := ?_) (get_of_drop rfl) (by kernel_rfl) (by kernel_rfl) (by kernel_rfl) (by kernel_rfl) (fun _ _ _ h => h) (Or.inl ⟨by rfl, ?_⟩) hHeld ?_
      rotate_left
      · (intro w hSw; (try dsimp only at hSw); go_simp <;> with_reducible rfl)
      try simp only [Act.put, List.setIfInBounds_toArray, List.set_cons_zero, List.set_cons_succ]
      -- 1: t42 := nilCheck t41 : 0
      refine wpB_take (i := 1) (v := ?_) (get_of_drop rfl) (by kernel_rfl) (by kernel_rfl) (by kernel_rfl) (by kernel_rfl) (fun _ _ _ h => h) (Or.inl ⟨by rfl, ?_⟩) hHeld ?_
      rotate_left
      · (intro w hSw; (try dsimp only at hSw); go_simp <;> with_reducible rfl)
      try simp only [Act.put, List.setIfInBounds_toArray, List.set_cons_zero, List.set_cons_succ]
      -- 2: t43 := fieldAddr 100 t42 4 : 0
      refine wpB_take (i := 2) (v := ?_) (get_of_drop rfl) (by kernel_rfl) (by kernel_rfl) (by kernel_rfl) (by kernel_rfl) (fun _ _ _ h => h) (Or.inl ⟨by rfl, ?_⟩) hHeld ?_
      rotate_left
      · (intro w hSw; (try dsimp only at hSw); go_simp <;> with_reducible rfl)
      try simp only [Act.put, List.setIfInBounds_toArray, List.set_cons_zero, List.set_cons_succ]
      -- 3: t44 := load 97 t43 : 97
      refine wpB_take (i := 3) (v := ?_) (get_of_drop rfl) (by kernel_rfl) (by kernel_rfl) (by kernel_rfl) (by kernel_rfl) (fun _ _ _ h => h) (Or.inl ⟨by rfl, ?_⟩) hHeld ?_
      rotate_left
      · (intro w hSw; (try dsimp only at hSw); go_simp <;> with_reducible rfl)
      try simp only [Act.put, List.setIfInBounds_toArray, List.set_cons_zero, List.set_cons_succ]
      -- 4: t45 := fieldAddr 41 t3 2 : 0
      refine wpB_take (i := 4) (v := ?_) (get_of_drop rfl) (by kernel_rfl) (by kernel_rfl) (by kernel_rfl) (by kernel_rfl) (fun _ _ _ h => h) (Or.inl ⟨by rfl, ?_⟩) hHeld ?_
      rotate_left
      · (intro w hSw; (try dsimp only at hSw); go_simp <;> with_reducible rfl)
      try simp only [Act.put, List.setIfInBounds_toArray, List.set_cons_zero, List.set_cons_succ]
      -- 5: t46 := load 3 t45 : 3
      refine wpB_take (i := 5) (v := ?_) (get_of_drop rfl) (by kernel_rfl) (by kernel_rfl) (by kernel_rfl) (by kernel_rfl) (fun _ _ _ h => h) (Or.inl ⟨by rfl, ?_⟩) hHeld ?_
      rotate_left
      · (intro w hSw; (try dsimp only at hSw); go_simp <;> with_reducible rfl)
      try simp only [Act.put, List.setIfInBounds_toArray, List.set_cons_zero, List.set_cons_succ]
      -- 6: t- := mapUpdate 97 t44 t46 #true : 0 (BARRIER)
      refine wpB_bar (i := 6) (by kernel_rfl) (get_of_drop rfl) (by kernel_rfl) (fun K hK => ?_)
      go_simp
      refine hK.out _ _ (fun _ : World => True) ?_
      clear hHeld hK K
      have hHeld := trivial
      try simp only [Act.put, List.setIfInBounds_toArray, List.set_cons_zero, List.set_cons_succ]
      refine wpB_done (by kernel_rfl) ?_ _
      clear hrU U_10 X_2 hHeld
      have HOK3 := hid (HOK1.out.start (k := m.src) (by rw [HN1.out]; exact HS.out) true)
      go_wp2_with fail
      refine (see_any H3.out HOK3.out (by have := HOK3.out.lens; omega) (by have := HOK3.out.lens; omega) (by have := HOU.out; show r1.out.length ≤ _; omega)).mono ?_
      rintro e we ⟨A', n', c', O', rfl, he, hoe, ke⟩
      have HE := hid he
      have HOE := hid hoe
      have KE := hid ke
      clear he hoe ke
      go_wp2_with fail
      go_end0
      have e1 : turnR r m = seeR { r1 with starts := ups m.src true r1.starts } := by rw [HRR.out]; unfold turn2R; rw [if_pos ⟨HKD.out, HCH1.out⟩]
      rw [e1]
      exact turn_end KC.out HO1.out KD.out HE.out HOE.out KE.out (.inr (.inr (.inl rfl)))

/-- A call's world may be counted from later on, if nothing has been said; and a block that is new then may be kept apart. -/
theorem Rep.rebase {w0 w w1 : World} {p b1 b2 b3 b : Nat} {X : Nat → Prop} {r : Rp} {A : Option Addr} {n c : Nat} (h : Rep w0 w p b1 b2 b3 X r A n c (.slice none 0 0)) (ho : r.out = []) (hc : Chg (fun _ => False) w w1) (hb : b = w.heap.size) (hb1 : b < w1.heap.size) : Rep w1 w1 p b1 b2 b3 (fun k => X k ∨ k = b) r A n c (.slice none 0 0) := by
  obtain ⟨V, h3, h4⟩ := h.chgs
  have hs := Nat.le_trans h.sz hc.size
  have hl := h.lt
  have hlg : ∀ k, Lg X (.slice none 0 0) k ∧ k < w.heap.size → Lg (fun k => X k ∨ k = b) (.slice none 0 0) k := fun k hk => ⟨fun e => by rcases e with e | e; exact hk.1.1 e; have := hk.2; omega, hk.1.2⟩
  exact ⟨Nat.le_refl _, by omega, h.ne, ⟨fun k hk => .inl (h.sub.1 k hk), fun k hk => by rcases hk with e | e; have := h.sub.2 k e; omega; omega⟩, hc.blk h.blk (fun h => h), h.acks.chg hc (fun h => h), h.starts.chg hc (fun h => h), ⟨V, h3.chg hc (fun h => h), (h4.bound.chg hc (fun _ _ h => h)).mono hlg⟩, (h.log.bound.chg hc (fun _ _ h => h)).mono hlg, by rw [ho]; exact Vec.nil _ _ _ _ _⟩
theorem Rep.back {w0 w w1 w' : World} {p b1 b2 b3 b : Nat} {X : Nat → Prop} {r r' : Rp} {A A' : Option Addr} {n c n' c' : Nat} {O O' : Value} (h : Rep w0 w p b1 b2 b3 X r A n c O) (hs : w.heap.size ≤ w1.heap.size) (h' : Rep w1 w' p b1 b2 b3 (fun k => X k ∨ k = b) r' A' n' c' O') : Rep w0 w' p b1 b2 b3 X r' A' n' c' O' := by
  obtain ⟨V, h3, h4⟩ := h'.chgs
  have hs0 := Nat.le_trans h.sz hs
  have hlg : ∀ k, Lg (fun k => X k ∨ k = b) O' k → Lg X O' k := fun k hk => ⟨fun e => hk.1 (.inl e), hk.2⟩
  exact ⟨Nat.le_trans hs0 h'.sz, h.lt, h.ne, h.sub, h'.blk, h'.acks, h'.starts, ⟨V, h3, h4.mono hlg⟩, h'.log.mono hlg, h'.out.mono (fun k hk _ => Nat.le_trans hs0 hk) (fun k hk _ => Nat.le_trans hs0 hk)⟩
/-- What is kept apart, and is no block of its own, may be written. -/
theorem Rep.apart {w0 w W : World} {p b1 b2 b3 : Nat} {X : Nat → Prop} {r : Rp} {A : Option Addr} {n c : Nat} {O : Value} (h : Rep w0 w p b1 b2 b3 X r A n c O) (hc : Chg (fun k => X k ∧ ¬ M4 p b1 b2 b3 k) w W) : Rep w0 W p b1 b2 b3 X r A n c O := by
  obtain ⟨V, h3, h4⟩ := h.chgs
  have hlg : ∀ k, Lg X O k → ¬ (X k ∧ ¬ M4 p b1 b2 b3 k) := fun k hk e => hk.1 e.1
  have ho : ∀ k, w0.heap.size ≤ k → ¬ (X k ∧ ¬ M4 p b1 b2 b3 k) := fun k hk e => by have := h.sub.2 k e.1; omega
  exact ⟨Nat.le_trans h.sz hc.size, h.lt, h.ne, h.sub, hc.blk h.blk (fun e => e.2 (.inl rfl)), h.acks.chg hc (fun e => e.2 (.inr (.inl rfl))), h.starts.chg hc (fun e => e.2 (.inr (.inr (.inl rfl)))), ⟨V, h3.chg hc (fun e => e.2 (.inr (.inr (.inr rfl)))), h4.chg hc hlg⟩, h.log.chg hc hlg, h.out.chg hc (fun k hk => ho k (h.out.inS k hk)) (fun k hk _ _ => ho k hk)⟩
end Go.Proofs.Ytaldoajdhbndhaa.Pa


/- turn of a message that tells all. -/

namespace Go.Proofs.Ytaldoajdhbndhaa.Pa

set_option linter.unusedVariables false

set_option linter.unusedSimpArgs false

open Go.RowKit Go.Proofs.Ytaldoajdhbndhaa.C

attribute [local go_sem] max2_int min2_int max_two min_two

set_option maxHeartbeats 4000000 in
set_option maxRecDepth 100000 in
theorem turn5_any {w0 w : World} {p b1 b2 b3 : Nat} {X : Nat → Prop} {r : Rp} {A : Option Addr} {n c : Nat} (h : Rep w0 w p b1 b2 b3 X r A n c (.slice none 0 0)) {m : Msg} {R : Nat → Prop} {B : Option Addr} {k d : Nat} (hm : Ty.At entryK w R B k d m.log) (hR : ∀ j, R j → j < w.heap.size → ¬ M4 p b1 b2 b3 j) (hok : RpOk r) (hmr : msgR m = true) (hs : 0 ≤ m.src ∧ m.src < r.n) (ho : r.out = []) (hk : m.kind = 5) :
    Calls Try.prog 51 #[.pointer (some ⟨p, 0, none⟩), .agg #[.int .i64 m.kind, .int .i64 m.view, .int .i64 m.src, .int .i64 m.dst, .int .i64 m.op, .int .i64 m.commit, .int .i64 m.normal, .slice B k d]] w (RepTo w0 w p b1 b2 b3 X (.slice none 0 0) (.tuple #[]) (turnR r m)) := by
  obtain ⟨w1, hw1⟩ : ∃ q_, q_ = (w.alloc (.cells #[.int .i64 m.kind, .int .i64 m.view, .int .i64 m.src, .int .i64 m.dst, .int .i64 m.op, .int .i64 m.commit, .int .i64 m.normal, .slice B k d] 41)) := ⟨_, rfl⟩
  have C1 := hid (show Chg (fun _ => False) w w1 by rw [hw1]; exact (Chg.refl _ w).alloc _)
  have BX := hid (show w1.heap[w.heap.size]? = some (.cells #[.int .i64 m.kind, .int .i64 m.view, .int .i64 m.src, .int .i64 m.dst, .int .i64 m.op, .int .i64 m.commit, .int .i64 m.normal, .slice B k d] 41 (0, 0)) by
    rw [hw1]
    have := blk_new w (.cells #[.int .i64 m.kind, .int .i64 m.view, .int .i64 m.src, .int .i64 m.dst, .int .i64 m.op, .int .i64 m.commit, .int .i64 m.normal, .slice B k d] 41)
    simpa using this)
  have SZ := hid (show w1.heap.size = w.heap.size + 1 by rw [hw1]; simp)
  have H1 := hid (h.far C1.out)
  obtain ⟨b, hb⟩ : ∃ q_, q_ = w.heap.size := ⟨_, rfl⟩
  have HBb := hid hb
  replace BX := hid (show w1.heap[b]? = some (.cells #[.int .i64 m.kind, .int .i64 m.view, .int .i64 m.src, .int .i64 m.dst, .int .i64 m.op, .int .i64 m.commit, .int .i64 m.normal, .slice B k d] 41 (0, 0)) by rw [hb]; exact BX.out)
  have HSZ := hid (show w1.heap.size = b + 1 by rw [hb]; exact SZ.out)
  have HPB := hid (show p < b by rw [hb]; exact lt_of_blk h.blk)
  have HW0 := hid (show w0.heap.size ≤ b by rw [hb]; exact h.sz)
  have HH := hid h
  have HM := hid hm.bound
  have HR := hid hR
  have HOK := hid hok
  have HMR := hid hmr
  have HS := hid hs
  have HOU0 := hid ho
  have HO := hid (show r.out.length ≤ 700 by rw [ho]; simp)
  have HKD := hid hk
  have HSW := hid (show (Lit.int .i64 m.src).wf = true from numW_of (by have := (msgR_num hmr).2.2.2.1; omega))
  have HVW := hid (show NumW m.view from numW_of (by have := (msgR_num hmr).2.1; omega))
  have HIW := hid (show NumW r.id from numW_of (by have := hok.cfg; omega))
  obtain ⟨X1, hX1⟩ : ∃ Y : Nat → Prop, Y = fun k => X k ∨ k = b := ⟨_, rfl⟩
  have HX1 := hid hX1
  replace H1 := hid (show Rep w1 w1 p b1 b2 b3 X1 r A n c (.slice none 0 0) by rw [hX1]; exact h.rebase ho C1.out hb (lt_of_blk BX.out))
  have BP := hid H1.out.blk
  have HM4 := hid (show ¬ M4 p b1 b2 b3 b from fun e => by have h4 := h.sub.2 b (h.sub.1 b e); have := HW0.out; omega)
  have HMB := hid (show ¬ (M4 p b1 b2 b3 b ∨ (Value.slice none 0 0).ownBlock = some b) from fun e => by rcases e with e | e; exact HM4.out e; simp [Value.ownBlock] at e)
  clear h hm hR hok hmr hs ho hk hX1
  have hn7 : primR r m.view = r.id ∨ primR r m.view ≠ r.id := by omega
  have HN7 := hid hn7
  clear hn7
  go_enter Try.func51, Try.ntmps51
  go_wp2_with fail
  rw [← hw1, ← hb]
  clear hw1 hb SZ
  have U_1 : ∀ wx, Chg (fun _ => False) w1 wx → wx.cell? ⟨p, 1, none⟩ = some (.int .i64 r.id) := fun wx hx => (cellAt (hx.blk BP.out (fun h => h)) 1).trans rfl
  have U_3 : ∀ wx, Chg (fun _ => False) w1 wx → wx.cell? ⟨p, 3, none⟩ = some (.int .i64 r.s.view) := fun wx hx => (cellAt (hx.blk BP.out (fun h => h)) 3).trans rfl
  have X_0 : ∀ wx, Chg (fun _ => False) w1 wx → wx.cell? ⟨b, 0, none⟩ = some (.int .i64 m.kind) := fun wx hx => (cellAt (hx.blk BX.out (fun h => h)) 0).trans rfl
  have X_1 : ∀ wx, Chg (fun _ => False) w1 wx → wx.cell? ⟨b, 1, none⟩ = some (.int .i64 m.view) := fun wx hx => (cellAt (hx.blk BX.out (fun h => h)) 1).trans rfl
  rw [HKD.out] at X_0
  by_cases hpr : primR r m.view = r.id
  case neg =>
    have hpr2 : (primR r m.view != r.id) = true := by simp [hpr]
    have HPR := hid hpr
    clear hpr
    refine wpB_start (fun wx : World => Chg (fun _ => False) w1 wx) (by kernel_rfl) ?_
    have hHeld : (fun wx : World => Chg (fun _ => False) w1 wx) _ := (Chg.refl (fun _ => False) w1).drew
    -- 0: t4 := fieldAddr 41 t3 0 : 0
    refine wpB_take (i := 0) (v := ?_) (get_of_drop rfl) (by kernel_rfl) (by kernel_rfl) (by kernel_rfl) (by kernel_rfl) (fun _ _ _ h => h) (Or.inl ⟨by rfl, ?_⟩) hHeld ?_
    rotate_left
    · (intro w hSw; (try dsimp only at hSw); go_simp <;> with_reducible rfl)
    try simp only [Act.put, List.setIfInBounds_toArray, List.set_cons_zero, List.set_cons_succ]
    -- 1: t5 := load 3 t4 : 3
    refine wpB_take (i := 1) (v := ?_) (get_of_drop rfl) (by kernel_rfl) (by kernel_rfl) (by kernel_rfl) (by kernel_rfl) (fun _ _ _ h => h) (Or.inl ⟨by rfl, ?_⟩) hHeld ?_
    rotate_left
    · (intro w hSw; (try dsimp only at hSw); go_simp <;> with_reducible rfl)
    try simp only [Act.put, List.setIfInBounds_toArray, List.set_cons_zero, List.set_cons_succ]
    -- 2: t6 := binOp BinOp.eql 3 t5 #i64:5 3 : 4
    refine wpB_take (i := 2) (v := ?_) (get_of_drop rfl) (by kernel_rfl) (by kernel_rfl) (by kernel_rfl) (by kernel_rfl) (fun _ _ _ h => h) (Or.inl ⟨by rfl, ?_⟩) hHeld ?_
    rotate_left
    · (intro w hSw; (try dsimp only at hSw); go_simp <;> with_reducible rfl)
    try simp only [Act.put, List.setIfInBounds_toArray, List.set_cons_zero, List.set_cons_succ]
    -- 3: t7 := move t6 : 4
    refine wpB_take (i := 3) (v := ?_) (get_of_drop rfl) (by kernel_rfl) (by kernel_rfl) (by kernel_rfl) (by kernel_rfl) (fun _ _ _ h => h) (Or.inl ⟨by rfl, ?_⟩) hHeld ?_
    rotate_left
    · (intro w hSw; (try dsimp only at hSw); go_simp <;> with_reducible rfl)
    try simp only [Act.put, List.setIfInBounds_toArray, List.set_cons_zero, List.set_cons_succ]
    -- 4: t8 := move t0 : 30   [if ⟨3, true⟩]
    refine wpB_take (i := 4) (v := ?_) (get_of_drop rfl) (by kernel_rfl) (by kernel_rfl) (by kernel_rfl) (by kernel_rfl) (fun _ _ _ h => h) (Or.inl ⟨by rfl, ?_⟩) hHeld ?_
    rotate_left
    · (intro w hSw; (try dsimp only at hSw); go_simp <;> with_reducible rfl)
    try simp only [Act.put, List.setIfInBounds_toArray, List.set_cons_zero, List.set_cons_succ]
    -- 5: t9 := fieldAddr 41 t3 1 : 0   [if ⟨3, true⟩]
    refine wpB_take (i := 5) (v := ?_) (get_of_drop rfl) (by kernel_rfl) (by kernel_rfl) (by kernel_rfl) (by kernel_rfl) (fun _ _ _ h => h) (Or.inl ⟨by rfl, ?_⟩) hHeld ?_
    rotate_left
    · (intro w hSw; (try dsimp only at hSw); go_simp <;> with_reducible rfl)
    try simp only [Act.put, List.setIfInBounds_toArray, List.set_cons_zero, List.set_cons_succ]
    -- 6: t10 := load 3 t9 : 3   [if ⟨3, true⟩]
    refine wpB_take (i := 6) (v := ?_) (get_of_drop rfl) (by kernel_rfl) (by kernel_rfl) (by kernel_rfl) (by kernel_rfl) (fun _ _ _ h => h) (Or.inl ⟨by rfl, ?_⟩) hHeld ?_
    rotate_left
    · (intro w hSw; (try dsimp only at hSw); go_simp <;> with_reducible rfl)
    try simp only [Act.put, List.setIfInBounds_toArray, List.set_cons_zero, List.set_cons_succ]
    -- 8: t12 := move t0 : 30   [if ⟨3, true⟩]
    refine wpB_take (i := 8) (v := ?_) (get_of_drop rfl) (by kernel_rfl) (by kernel_rfl) (by kernel_rfl) (by kernel_rfl) (fun _ _ _ h => h) (Or.inl ⟨by rfl, ?_⟩) hHeld ?_
    rotate_left
    · (intro w hSw; (try dsimp only at hSw); go_simp <;> with_reducible rfl)
    try simp only [Act.put, List.setIfInBounds_toArray, List.set_cons_zero, List.set_cons_succ]
    -- 9: t13 := nilCheck t12 : 0   [if ⟨3, true⟩]
    refine wpB_take (i := 9) (v := ?_) (get_of_drop rfl) (by kernel_rfl) (by kernel_rfl) (by kernel_rfl) (by kernel_rfl) (fun _ _ _ h => h) (Or.inl ⟨by rfl, ?_⟩) hHeld ?_
    rotate_left
    · (intro w hSw; (try dsimp only at hSw); go_simp <;> with_reducible rfl)
    try simp only [Act.put, List.setIfInBounds_toArray, List.set_cons_zero, List.set_cons_succ]
    -- 10: t14 := fieldAddr 100 t13 0 : 0   [if ⟨3, true⟩]
    refine wpB_take (i := 10) (v := ?_) (get_of_drop rfl) (by kernel_rfl) (by kernel_rfl) (by kernel_rfl) (by kernel_rfl) (fun _ _ _ h => h) (Or.inl ⟨by rfl, ?_⟩) hHeld ?_
    rotate_left
    · (intro w hSw; (try dsimp only at hSw); go_simp <;> with_reducible rfl)
    try simp only [Act.put, List.setIfInBounds_toArray, List.set_cons_zero, List.set_cons_succ]
    -- 11: t15 := fieldAddr 23 t14 1 : 0   [if ⟨3, true⟩]
    refine wpB_take (i := 11) (v := ?_) (get_of_drop rfl) (by kernel_rfl) (by kernel_rfl) (by kernel_rfl) (by kernel_rfl) (fun _ _ _ h => h) (Or.inl ⟨by rfl, ?_⟩) hHeld ?_
    rotate_left
    · (intro w hSw; (try dsimp only at hSw); go_simp <;> with_reducible rfl)
    try simp only [Act.put, List.setIfInBounds_toArray, List.set_cons_zero, List.set_cons_succ]
    -- 12: t16 := load 3 t15 : 3   [if ⟨3, true⟩]
    refine wpB_take (i := 12) (v := ?_) (get_of_drop rfl) (by kernel_rfl) (by kernel_rfl) (by kernel_rfl) (by kernel_rfl) (fun _ _ _ h => h) (Or.inl ⟨by rfl, ?_⟩) hHeld ?_
    rotate_left
    · (intro w hSw; (try dsimp only at hSw); go_simp <;> with_reducible rfl)
    try simp only [Act.put, List.setIfInBounds_toArray, List.set_cons_zero, List.set_cons_succ]
    -- 7: t11 := CALL fn48(t8, t10) : 3   [if ⟨3, true⟩]
    refine wpB_act (i := 7) (by kernel_rfl) (get_of_drop rfl) (fun K hK => ?_)
    go_simp
    refine (prim_any (H1.out.far hHeld) HOK.out.cfg.1 (msgR_num HMR.out).2.1).mono ?_
    rintro e' wy ⟨rfl, rfl⟩
    refine hK.out _ _ ?_ (fun hHeld2 => ?_)
    · first | assumption | exact Chg.alloc hHeld _
    clear hHeld hK K
    have hHeld := hHeld2
    clear hHeld2
    try simp only [Act.put, List.setIfInBounds_toArray, List.set_cons_zero, List.set_cons_succ]
    -- 13: t17 := binOp BinOp.neq 3 t11 t16 3 : 4   [if ⟨3, true⟩]
    refine wpB_take (i := 13) (v := ?_) (get_of_drop rfl) (by kernel_rfl) (by kernel_rfl) (by kernel_rfl) (by kernel_rfl) (fun _ _ _ h => h) (Or.inl ⟨by rfl, ?_⟩) hHeld ?_
    rotate_left
    · (intro w hSw; (try dsimp only at hSw); go_simp <;> with_reducible rfl)
    try simp only [Act.put, List.setIfInBounds_toArray, List.set_cons_zero, List.set_cons_succ]
    -- 14: t18 := pick t7 t17 #false : 4
    refine wpB_take (i := 14) (v := ?_) (get_of_drop rfl) (by kernel_rfl) (by kernel_rfl) (by kernel_rfl) (by kernel_rfl) (fun _ _ _ h => h) (Or.inl ⟨by rfl, ?_⟩) hHeld ?_
    rotate_left
    · (intro w hSw; (try dsimp only at hSw); go_simp <;> with_reducible rfl)
    try simp only [Act.put, List.setIfInBounds_toArray, List.set_cons_zero, List.set_cons_succ]
    refine wpB_done (by kernel_rfl) ?_ _
    go_wp2_with fail
    go_end0
    have e1 : turnR r m = r := by unfold turnR; rw [if_pos ⟨HKD.out, HPR.out⟩]
    rw [e1]
    exact ⟨A, n, c, .slice none 0 0, rfl, HH.out.far (C1.out.drew), fun j hj => .inl hj, (C1.out.drew).mono (fun _ h _ => h.elim)⟩
  have hpr2 : (primR r m.view != r.id) = false := by simp [hpr]
  have HNP := hid (show ¬ (m.kind = 5 ∧ primR r m.view ≠ r.id) from fun h => h.2 hpr)
  clear hpr
  refine wpB_start (fun wx : World => Chg (fun _ => False) w1 wx) (by kernel_rfl) ?_
  have hHeld : (fun wx : World => Chg (fun _ => False) w1 wx) _ := (Chg.refl (fun _ => False) w1).drew
  -- 0: t4 := fieldAddr 41 t3 0 : 0
  refine wpB_take (i := 0) (v := ?_) (get_of_drop rfl) (by kernel_rfl) (by kernel_rfl) (by kernel_rfl) (by kernel_rfl) (fun _ _ _ h => h) (Or.inl ⟨by rfl, ?_⟩) hHeld ?_
  rotate_left
  · (intro w hSw; (try dsimp only at hSw); go_simp <;> with_reducible rfl)
  try simp only [Act.put, List.setIfInBounds_toArray, List.set_cons_zero, List.set_cons_succ]
  -- 1: t5 := load 3 t4 : 3
  refine wpB_take (i := 1) (v := ?_) (get_of_drop rfl) (by kernel_rfl) (by kernel_rfl) (by kernel_rfl) (by kernel_rfl) (fun _ _ _ h => h) (Or.inl ⟨by rfl, ?_⟩) hHeld ?_
  rotate_left
  · (intro w hSw; (try dsimp only at hSw); go_simp <;> with_reducible rfl)
  try simp only [Act.put, List.setIfInBounds_toArray, List.set_cons_zero, List.set_cons_succ]
  -- 2: t6 := binOp BinOp.eql 3 t5 #i64:5 3 : 4
  refine wpB_take (i := 2) (v := ?_) (get_of_drop rfl) (by kernel_rfl) (by kernel_rfl) (by kernel_rfl) (by kernel_rfl) (fun _ _ _ h => h) (Or.inl ⟨by rfl, ?_⟩) hHeld ?_
  rotate_left
  · (intro w hSw; (try dsimp only at hSw); go_simp <;> with_reducible rfl)
  try simp only [Act.put, List.setIfInBounds_toArray, List.set_cons_zero, List.set_cons_succ]
  -- 3: t7 := move t6 : 4
  refine wpB_take (i := 3) (v := ?_) (get_of_drop rfl) (by kernel_rfl) (by kernel_rfl) (by kernel_rfl) (by kernel_rfl) (fun _ _ _ h => h) (Or.inl ⟨by rfl, ?_⟩) hHeld ?_
  rotate_left
  · (intro w hSw; (try dsimp only at hSw); go_simp <;> with_reducible rfl)
  try simp only [Act.put, List.setIfInBounds_toArray, List.set_cons_zero, List.set_cons_succ]
  -- 4: t8 := move t0 : 30   [if ⟨3, true⟩]
  refine wpB_take (i := 4) (v := ?_) (get_of_drop rfl) (by kernel_rfl) (by kernel_rfl) (by kernel_rfl) (by kernel_rfl) (fun _ _ _ h => h) (Or.inl ⟨by rfl, ?_⟩) hHeld ?_
  rotate_left
  · (intro w hSw; (try dsimp only at hSw); go_simp <;> with_reducible rfl)
  try simp only [Act.put, List.setIfInBounds_toArray, List.set_cons_zero, List.set_cons_succ]
  -- 5: t9 := fieldAddr 41 t3 1 : 0   [if ⟨3, true⟩]
  refine wpB_take (i := 5) (v := ?_) (get_of_drop rfl) (by kernel_rfl) (by kernel_rfl) (by kernel_rfl) (by kernel_rfl) (fun _ _ _ h => h) (Or.inl ⟨by rfl, ?_⟩) hHeld ?_
  rotate_left
  · (intro w hSw; (try dsimp only at hSw); go_simp <;> with_reducible rfl)
  try simp only [Act.put, List.setIfInBounds_toArray, List.set_cons_zero, List.set_cons_succ]
  -- 6: t10 := load 3 t9 : 3   [if ⟨3, true⟩]
  refine wpB_take (i := 6) (v := ?_) (get_of_drop rfl) (by kernel_rfl) (by kernel_rfl) (by kernel_rfl) (by kernel_rfl) (fun _ _ _ h => h) (Or.inl ⟨by rfl, ?_⟩) hHeld ?_
  rotate_left
  · (intro w hSw; (try dsimp only at hSw); go_simp <;> with_reducible rfl)
  try simp only [Act.put, List.setIfInBounds_toArray, List.set_cons_zero, List.set_cons_succ]
  -- 8: t12 := move t0 : 30   [if ⟨3, true⟩]
  refine wpB_take (i := 8) (v := ?_) (get_of_drop rfl) (by kernel_rfl) (by kernel_rfl) (by kernel_rfl) (by kernel_rfl) (fun _ _ _ h => h) (Or.inl ⟨by rfl, ?_⟩) hHeld ?_
  rotate_left
  · (intro w hSw; (try dsimp only at hSw); go_simp <;> with_reducible rfl)
  try simp only [Act.put, List.setIfInBounds_toArray, List.set_cons_zero, List.set_cons_succ]
  -- 9: t13 := nilCheck t12 : 0   [if ⟨3, true⟩]
  refine wpB_take (i := 9) (v := ?_) (get_of_drop rfl) (by kernel_rfl) (by kernel_rfl) (by kernel_rfl) (by kernel_rfl) (fun _ _ _ h => h) (Or.inl ⟨by rfl, ?_⟩) hHeld ?_
  rotate_left
  · (intro w hSw; (try dsimp only at hSw); go_simp <;> with_reducible rfl)
  try simp only [Act.put, List.setIfInBounds_toArray, List.set_cons_zero, List.set_cons_succ]
  -- 10: t14 := fieldAddr 100 t13 0 : 0   [if ⟨3, true⟩]
  refine wpB_take (i := 10) (v := ?_) (get_of_drop rfl) (by kernel_rfl) (by kernel_rfl) (by kernel_rfl) (by kernel_rfl) (fun _ _ _ h => h) (Or.inl ⟨by rfl, ?_⟩) hHeld ?_
  rotate_left
  · (intro w hSw; (try dsimp only at hSw); go_simp <;> with_reducible rfl)
  try simp only [Act.put, List.setIfInBounds_toArray, List.set_cons_zero, List.set_cons_succ]
  -- 11: t15 := fieldAddr 23 t14 1 : 0   [if ⟨3, true⟩]
  refine wpB_take (i := 11) (v := ?_) (get_of_drop rfl) (by kernel_rfl) (by kernel_rfl) (by kernel_rfl) (by kernel_rfl) (fun _ _ _ h => h) (Or.inl ⟨by rfl, ?_⟩) hHeld ?_
  rotate_left
  · (intro w hSw; (try dsimp only at hSw); go_simp <;> with_reducible rfl)
  try simp only [Act.put, List.setIfInBounds_toArray, List.set_cons_zero, List.set_cons_succ]
  -- 12: t16 := load 3 t15 : 3   [if ⟨3, true⟩]
  refine wpB_take (i := 12) (v := ?_) (get_of_drop rfl) (by kernel_rfl) (by kernel_rfl) (by kernel_rfl) (by kernel_rfl) (fun _ _ _ h => h) (Or.inl ⟨by rfl, ?_⟩) hHeld ?_
  rotate_left
  · (intro w hSw; (try dsimp only at hSw); go_simp <;> with_reducible rfl)
  try simp only [Act.put, List.setIfInBounds_toArray, List.set_cons_zero, List.set_cons_succ]
  -- 7: t11 := CALL fn48(t8, t10) : 3   [if ⟨3, true⟩]
  refine wpB_act (i := 7) (by kernel_rfl) (get_of_drop rfl) (fun K hK => ?_)
  go_simp
  refine (prim_any (H1.out.far hHeld) HOK.out.cfg.1 (msgR_num HMR.out).2.1).mono ?_
  rintro e' wy ⟨rfl, rfl⟩
  refine hK.out _ _ ?_ (fun hHeld2 => ?_)
  · first | assumption | exact Chg.alloc hHeld _
  clear hHeld hK K
  have hHeld := hHeld2
  clear hHeld2
  try simp only [Act.put, List.setIfInBounds_toArray, List.set_cons_zero, List.set_cons_succ]
  -- 13: t17 := binOp BinOp.neq 3 t11 t16 3 : 4   [if ⟨3, true⟩]
  refine wpB_take (i := 13) (v := ?_) (get_of_drop rfl) (by kernel_rfl) (by kernel_rfl) (by kernel_rfl) (by kernel_rfl) (fun _ _ _ h => h) (Or.inl ⟨by rfl, ?_⟩) hHeld ?_
  rotate_left
  · (intro w hSw; (try dsimp only at hSw); go_simp <;> with_reducible rfl)
  try simp only [Act.put, List.setIfInBounds_toArray, List.set_cons_zero, List.set_cons_succ]
  -- 14: t18 := pick t7 t17 #false : 4
  refine wpB_take (i := 14) (v := ?_) (get_of_drop rfl) (by kernel_rfl) (by kernel_rfl) (by kernel_rfl) (by kernel_rfl) (fun _ _ _ h => h) (Or.inl ⟨by rfl, ?_⟩) hHeld ?_
  rotate_left
  · (intro w hSw; (try dsimp only at hSw); go_simp <;> with_reducible rfl)
  try simp only [Act.put, List.setIfInBounds_toArray, List.set_cons_zero, List.set_cons_succ]
  refine wpB_done (by kernel_rfl) ?_ _
  clear hpr2
  go_wp2_with fail
  obtain ⟨wa, hwa⟩ : ∃ q_, q_ = w1.drew := ⟨_, rfl⟩
  rw [← hwa]
  have CA := hid (show Chg (fun _ => False) w wa by rw [hwa]; exact C1.out.drew)
  have HA := hid (show Rep w1 wa p b1 b2 b3 X1 r A n c (.slice none 0 0) by rw [hwa]; exact H1.out.far ((Chg.refl (fun _ => False) w1).drew))
  have BXa := hid (show wa.heap[b]? = some (.cells #[.int .i64 m.kind, .int .i64 m.view, .int .i64 m.src, .int .i64 m.dst, .int .i64 m.op, .int .i64 m.commit, .int .i64 m.normal, .slice B k d] 41 (0, 0)) by rw [hwa]; exact blk_drew BX.out)
  have BPa := hid HA.out.blk
  clear hwa hHeld U_1 U_3 X_0 X_1
  have U_3 : ∀ wx, Chg (fun _ => False) wa wx → wx.cell? ⟨p, 3, none⟩ = some (.int .i64 r.s.view) := fun wx hx => (cellAt (hx.blk BPa.out (fun h => h)) 3).trans rfl
  have X_1 : ∀ wx, Chg (fun _ => False) wa wx → wx.cell? ⟨b, 1, none⟩ = some (.int .i64 m.view) := fun wx hx => (cellAt (hx.blk BXa.out (fun h => h)) 1).trans rfl
  refine wpB_start (fun wx : World => Chg (fun _ => False) wa wx) (by kernel_rfl) ?_
  have hHeld : (fun wx : World => Chg (fun _ => False) wa wx) _ := (Chg.refl (fun _ => False) wa).drew
  -- 0: t19 := fieldAddr 41 t3 1 : 0
  refine wpB_take (i := 0) (v := ?_) (get_of_drop rfl) (by kernel_rfl) (by kernel_rfl) (by kernel_rfl) (by kernel_rfl) (fun _ _ _ h => h) (Or.inl ⟨by rfl, ?_⟩) hHeld ?_
  rotate_left
  · (intro w hSw; (try dsimp only at hSw); go_simp <;> with_reducible rfl)
  try simp only [Act.put, List.setIfInBounds_toArray, List.set_cons_zero, List.set_cons_succ]
  -- 1: t20 := load 3 t19 : 3
  refine wpB_take (i := 1) (v := ?_) (get_of_drop rfl) (by kernel_rfl) (by kernel_rfl) (by kernel_rfl) (by kernel_rfl) (fun _ _ _ h => h) (Or.inl ⟨by rfl, ?_⟩) hHeld ?_
  rotate_left
  · (intro w hSw; (try dsimp only at hSw); go_simp <;> with_reducible rfl)
  try simp only [Act.put, List.setIfInBounds_toArray, List.set_cons_zero, List.set_cons_succ]
  -- 2: t21 := move t0 : 30
  refine wpB_take (i := 2) (v := ?_) (get_of_drop rfl) (by kernel_rfl) (by kernel_rfl) (by kernel_rfl) (by kernel_rfl) (fun _ _ _ h => h) (Or.inl ⟨by rfl, ?_⟩) hHeld ?_
  rotate_left
  · (intro w hSw; (try dsimp only at hSw); go_simp <;> with_reducible rfl)
  try simp only [Act.put, List.setIfInBounds_toArray, List.set_cons_zero, List.set_cons_succ]
  -- 3: t22 := nilCheck t21 : 0
  refine wpB_take (i := 3) (v := ?_) (get_of_drop rfl) (by kernel_rfl) (by kernel_rfl) (by kernel_rfl) (by kernel_rfl) (fun _ _ _ h => h) (Or.inl ⟨by rfl, ?_⟩) hHeld ?_
  rotate_left
  · (intro w hSw; (try dsimp only at hSw); go_simp <;> with_reducible rfl)
  try simp only [Act.put, List.setIfInBounds_toArray, List.set_cons_zero, List.set_cons_succ]
  -- 4: t23 := fieldAddr 100 t22 1 : 0
  refine wpB_take (i := 4) (v := ?_) (get_of_drop rfl) (by kernel_rfl) (by kernel_rfl) (by kernel_rfl) (by kernel_rfl) (fun _ _ _ h => h) (Or.inl ⟨by rfl, ?_⟩) hHeld ?_
  rotate_left
  · (intro w hSw; (try dsimp only at hSw); go_simp <;> with_reducible rfl)
  try simp only [Act.put, List.setIfInBounds_toArray, List.set_cons_zero, List.set_cons_succ]
  -- 5: t24 := fieldAddr 26 t23 0 : 0
  refine wpB_take (i := 5) (v := ?_) (get_of_drop rfl) (by kernel_rfl) (by kernel_rfl) (by kernel_rfl) (by kernel_rfl) (fun _ _ _ h => h) (Or.inl ⟨by rfl, ?_⟩) hHeld ?_
  rotate_left
  · (intro w hSw; (try dsimp only at hSw); go_simp <;> with_reducible rfl)
  try simp only [Act.put, List.setIfInBounds_toArray, List.set_cons_zero, List.set_cons_succ]
  -- 6: t25 := load 3 t24 : 3
  refine wpB_take (i := 6) (v := ?_) (get_of_drop rfl) (by kernel_rfl) (by kernel_rfl) (by kernel_rfl) (by kernel_rfl) (fun _ _ _ h => h) (Or.inl ⟨by rfl, ?_⟩) hHeld ?_
  rotate_left
  · (intro w hSw; (try dsimp only at hSw); go_simp <;> with_reducible rfl)
  try simp only [Act.put, List.setIfInBounds_toArray, List.set_cons_zero, List.set_cons_succ]
  -- 7: t26 := binOp BinOp.gtr 3 t20 t25 3 : 4
  refine wpB_take (i := 7) (v := ?_) (get_of_drop rfl) (by kernel_rfl) (by kernel_rfl) (by kernel_rfl) (by kernel_rfl) (fun _ _ _ h => h) (Or.inl ⟨by rfl, ?_⟩) hHeld ?_
  rotate_left
  · (intro w hSw; (try dsimp only at hSw); go_simp <;> with_reducible rfl)
  try simp only [Act.put, List.setIfInBounds_toArray, List.set_cons_zero, List.set_cons_succ]
  refine wpB_done (by kernel_rfl) ?_ _
  obtain ⟨wb, hwb⟩ : ∃ q_, q_ = wa.drew := ⟨_, rfl⟩
  rw [← hwb]
  have CB := hid (show Chg (fun _ => False) w wb by rw [hwb]; exact CA.out.drew)
  have HB := hid (show Rep w1 wb p b1 b2 b3 X1 r A n c (.slice none 0 0) by rw [hwb]; exact HA.out.far ((Chg.refl (fun _ => False) wa).drew))
  have BXb := hid (show wb.heap[b]? = some (.cells #[.int .i64 m.kind, .int .i64 m.view, .int .i64 m.src, .int .i64 m.dst, .int .i64 m.op, .int .i64 m.commit, .int .i64 m.normal, .slice B k d] 41 (0, 0)) by rw [hwb]; exact blk_drew BXa.out)
  clear hwb hHeld
  clear U_3 X_1
  by_cases hvl : r.s.view < m.view
  · have HVL := hid hvl
    have X_1 : wb.cell? ⟨b, 1, none⟩ = some (.int .i64 m.view) := (cellAt BXb.out 1).trans rfl
    go_wp2_with fail
    clear X_1
    refine (begin_any HB.out HOK.out.cfg.1 ⟨HVW.out, HIW.out⟩ (by have := HO.out; omega)).mono ?_
    rintro e wc ⟨O1, rfl, hc, hoc, kc⟩
    have HOC := hid hoc
    have KC := hid (show Chg (fun j => M4 p b1 b2 b3 j ∨ (Value.slice none 0 0).ownBlock = some j) w wc from (CB.out.mono (S' := fun j => M4 p b1 b2 b3 j ∨ (Value.slice none 0 0).ownBlock = some j) (fun _ h _ => h.elim)).trans kc (fun _ h _ => h))
    have BXc := hid (kc.blk BXb.out HMB.out)
    have HO1 := hid (show ∀ j, O1.ownBlock = some j → (Value.slice none 0 0).ownBlock = some j ∨ w.heap.size ≤ j from fun j hj => (hoc j hj).imp id (fun h => Nat.le_trans CB.out.size h))
    have HOK1 := hid (HOK.out.begin_ (v := m.view) ⟨HVL.out, (msgR_num HMR.out).2.1.2⟩)
    obtain ⟨lb, hlb, hlb2⟩ := beginR_eq HOK.out m.view
    obtain ⟨r1, hr1⟩ : ∃ q_, q_ = beginR r m.view := ⟨_, rfl⟩
    rw [← hr1] at hc HOK1
    have HRR := hid (show turnR r m = turn2R r1 m by unfold turnR; rw [if_neg HNP.out, if_pos HVL.out, hr1])
    have hch1 : r1.ch = true := by rw [hr1, hlb]; rfl
    have HN1 := hid (show r1.n = r.n by rw [hr1, hlb]; rfl)
    have HOU := hid (show r1.out.length ≤ 710 by rw [hr1, hlb]; have := HO.out; simp; omega)
    have H2 := hid hc
    clear hc hoc kc hr1 hlb hlb2
    have BP2 := hid H2.out.blk
    have P_8 : wc.cell? ⟨p, 8, none⟩ = some (.bool true) := by rw [← hch1]; exact (cellAt BP2.out 8).trans rfl
    have X_0 : wc.cell? ⟨b, 0, none⟩ = some (.int .i64 5) := by rw [← HKD.out]; exact (cellAt BXc.out 0).trans rfl
    have X_7 : wc.cell? ⟨b, 7, none⟩ = some (.slice B k d) := (cellAt BXc.out 7).trans rfl
    have HCH1 := hid hch1
    clear hch1
    go_wp2_with fail
    clear P_8 X_0 X_7
    have HKL := hid (show k ≤ 64 by have h1 := HM.out.1; have h2 := (msgR_log HMR.out).1; omega)
    refine (rcopied_any (HM.out.chg KC.out (fun j hj e => by rcases e with e | e; exact HR.out j hj.1 hj.2 e; simp [Value.ownBlock] at e)) (Nat.le_trans HKL.out (by decide)) (fits_right (msgR_log HMR.out).2.1)).mono ?_
    rintro e we ⟨B5, d5, rfl, hat, hce⟩
    have CE := hid hce
    have HAT := hid hat
    have BXe := hid (hce.blk BXc.out (fun h => h))
    clear hce hat
    have Y_7 : we.cell? ⟨b, 7, none⟩ = some (.slice B k d) := (cellAt BXe.out 7).trans rfl
    have Y_f7 : we.frozen? ⟨b, 7, none⟩ = false := freeAt BXe.out 7
    go_wp2_with fail
    obtain ⟨wf, hwf⟩ : ∃ q_, q_ = we.setCell ⟨b, 7, none⟩ (.slice B5 k d5) := ⟨_, rfl⟩
    rw [← hwf]
    have KF := hid (show Chg (fun j => j = b) we wf by rw [hwf]; exact (Chg.refl (fun j => j = b) we).set (fun _ => rfl) _)
    have BXf := hid (show wf.heap[b]? = some (.cells #[.int .i64 m.kind, .int .i64 m.view, .int .i64 m.src, .int .i64 m.dst, .int .i64 m.op, .int .i64 m.commit, .int .i64 m.normal, .slice B5 k d5] 41 (0, 0)) by rw [hwf]; exact blk_set BXe.out 7 _)
    have H3 := hid ((H2.out.far CE.out).apart (KF.out.mono (S' := fun j => X1 j ∧ ¬ M4 p b1 b2 b3 j) (fun j hj _ => by rw [hj]; exact ⟨by rw [HX1.out]; exact .inr rfl, HM4.out⟩)))
    have HBC := hid (lt_of_blk BXc.out)
    have HV5 := hid (show Ty.At entryK wf (Lg X1 O1) B5 k d5 m.log from (HAT.out.at.chg KF.out (fun j hj e => by have := HBC.out; rcases hj with h | h <;> omega)).mono (fun j hj => H2.out.new_lg (by rcases hj with h | h <;> exact h)))
    clear hwf Y_7 Y_f7
    obtain ⟨V, hIM, hCh⟩ := H3.out.chgs
    have HVL := hid (show V.length ≤ 7 by have h1 := congrArg List.length hCh.1; have h2 := HOK1.out.lens; simp at h1; omega)
    obtain ⟨wd, hrd, gd, kd⟩ := (hIM.chg ((Chg.refl (fun _ => False) wf).drew) (fun h => h)).update (P := Try.prog) map_ty3 Try.underlying3 HSW.out (.agg #[.int .i64 m.kind, .int .i64 m.view, .int .i64 m.src, .int .i64 m.dst, .int .i64 m.op, .int .i64 m.commit, .int .i64 m.normal, .slice B5 k d5]) (by have := HVL.out; omega)
    have HRD := hid hrd
    have H4 := hid ((H3.out.far ((Chg.refl (fun _ => False) wf).drew)).chgs_set (m := m) (hCh.chg ((Chg.refl (fun _ => False) wf).drew) (fun _ _ h => h)) kd gd (msgK.chg (msg_shut (by
      have hq := msgR_num HMR.out
      exact ⟨numW_of (by omega), numW_of (by omega), numW_of (by omega), numW_of (by omega), numW_of (by omega), numW_of (by omega), numW_of (by omega)⟩) HV5.out) ((Chg.refl (fun _ => False) wf).drew) (fun _ _ h => h)))
    have KD := hid kd
    clear hrd gd kd hIM hCh
    have BPf := hid H3.out.blk
    have hrU := HRD.out
    have U_11 : ∀ wx, Chg (fun _ => False) wf wx → wx.cell? ⟨p, 11, none⟩ = some (.map (some b3)) := fun wx hx => (cellAt (hx.blk BPf.out (fun h => h)) 11).trans rfl
    have X_0 : ∀ wx, Chg (fun _ => False) wf wx → wx.cell? ⟨b, 0, none⟩ = some (.int .i64 m.kind) := fun wx hx => (cellAt (hx.blk BXf.out (fun h => h)) 0).trans rfl
    have X_1 : ∀ wx, Chg (fun _ => False) wf wx → wx.cell? ⟨b, 1, none⟩ = some (.int .i64 m.view) := fun wx hx => (cellAt (hx.blk BXf.out (fun h => h)) 1).trans rfl
    have X_2 : ∀ wx, Chg (fun _ => False) wf wx → wx.cell? ⟨b, 2, none⟩ = some (.int .i64 m.src) := fun wx hx => (cellAt (hx.blk BXf.out (fun h => h)) 2).trans rfl
    have X_3 : ∀ wx, Chg (fun _ => False) wf wx → wx.cell? ⟨b, 3, none⟩ = some (.int .i64 m.dst) := fun wx hx => (cellAt (hx.blk BXf.out (fun h => h)) 3).trans rfl
    have X_4 : ∀ wx, Chg (fun _ => False) wf wx → wx.cell? ⟨b, 4, none⟩ = some (.int .i64 m.op) := fun wx hx => (cellAt (hx.blk BXf.out (fun h => h)) 4).trans rfl
    have X_5 : ∀ wx, Chg (fun _ => False) wf wx → wx.cell? ⟨b, 5, none⟩ = some (.int .i64 m.commit) := fun wx hx => (cellAt (hx.blk BXf.out (fun h => h)) 5).trans rfl
    have X_6 : ∀ wx, Chg (fun _ => False) wf wx → wx.cell? ⟨b, 6, none⟩ = some (.int .i64 m.normal) := fun wx hx => (cellAt (hx.blk BXf.out (fun h => h)) 6).trans rfl
    have X_7 : ∀ wx, Chg (fun _ => False) wf wx → wx.cell? ⟨b, 7, none⟩ = some (.slice B5 k d5) := fun wx hx => (cellAt (hx.blk BXf.out (fun h => h)) 7).trans rfl
    refine wpB_start (fun wx : World => Chg (fun _ => False) wf wx) (by kernel_rfl) ?_
    have hHeld : (fun wx : World => Chg (fun _ => False) wf wx) _ := (Chg.refl (fun _ => False) wf).drew
    -- 0: t63 := move t0 : 30
    refine wpB_take (i := 0) (v := ?_) (get_of_drop rfl) (by kernel_rfl) (by kernel_rfl) (by kernel_rfl) (by kernel_rfl) (fun _ _ _ h => h) (Or.inl ⟨by rfl, ?_⟩) hHeld ?_
    rotate_left
    · (intro w hSw; (try dsimp only at hSw); go_simp <;> with_reducible rfl)
    try simp only [Act.put, List.setIfInBounds_toArray, List.set_cons_zero, List.set_cons_succ]
    -- 1: t64 := nilCheck t63 : 0
    refine wpB_take (i := 1) (v := ?_) (get_of_drop rfl) (by kernel_rfl) (by kernel_rfl) (by kernel_rfl) (by kernel_rfl) (fun _ _ _ h => h) (Or.inl ⟨by rfl, ?_⟩) hHeld ?_
    rotate_left
    · (intro w hSw; (try dsimp only at hSw); go_simp <;> with_reducible rfl)
    try simp only [Act.put, List.setIfInBounds_toArray, List.set_cons_zero, List.set_cons_succ]
    -- 2: t65 := fieldAddr 100 t64 5 : 0
    refine wpB_take (i := 2) (v := ?_) (get_of_drop rfl) (by kernel_rfl) (by kernel_rfl) (by kernel_rfl) (by kernel_rfl) (fun _ _ _ h => h) (Or.inl ⟨by rfl, ?_⟩) hHeld ?_
    rotate_left
    · (intro w hSw; (try dsimp only at hSw); go_simp <;> with_reducible rfl)
    try simp only [Act.put, List.setIfInBounds_toArray, List.set_cons_zero, List.set_cons_succ]
    -- 3: t66 := load 98 t65 : 98
    refine wpB_take (i := 3) (v := ?_) (get_of_drop rfl) (by kernel_rfl) (by kernel_rfl) (by kernel_rfl) (by kernel_rfl) (fun _ _ _ h => h) (Or.inl ⟨by rfl, ?_⟩) hHeld ?_
    rotate_left
    · (intro w hSw; (try dsimp only at hSw); go_simp <;> with_reducible rfl)
    try simp only [Act.put, List.setIfInBounds_toArray, List.set_cons_zero, List.set_cons_succ]
    -- 4: t67 := fieldAddr 41 t3 2 : 0
    refine wpB_take (i := 4) (v := ?_) (get_of_drop rfl) (by kernel_rfl) (by kernel_rfl) (by kernel_rfl) (by kernel_rfl) (fun _ _ _ h => h) (Or.inl ⟨by rfl, ?_⟩) hHeld ?_
    rotate_left
    · (intro w hSw; (try dsimp only at hSw); go_simp <;> with_reducible rfl)
    try simp only [Act.put, List.setIfInBounds_toArray, List.set_cons_zero, List.set_cons_succ]
    -- 5: t68 := load 3 t67 : 3
    refine wpB_take (i := 5) (v := ?_) (get_of_drop rfl) (by kernel_rfl) (by kernel_rfl) (by kernel_rfl) (by kernel_rfl) (fun _ _ _ h => h) (Or.inl ⟨by rfl, ?_⟩) hHeld ?_
    rotate_left
    · (intro w hSw; (try dsimp only at hSw); go_simp <;> with_reducible rfl)
    try simp only [Act.put, List.setIfInBounds_toArray, List.set_cons_zero, List.set_cons_succ]
    -- 6: t69 := load 41 t3 : 41
    refine wpB_take (i := 6) (v := ?_) (get_of_drop rfl) (by kernel_rfl) (by kernel_rfl) (by kernel_rfl) (by kernel_rfl) (fun _ _ _ h => h) (Or.inl ⟨by rfl, ?_⟩) hHeld ?_
    rotate_left
    · (intro w hSw; (try dsimp only at hSw); go_simp <;> with_reducible rfl)
    try simp only [Act.put, List.setIfInBounds_toArray, List.set_cons_zero, List.set_cons_succ]
    -- 7: t- := mapUpdate 98 t66 t68 t69 : 0 (BARRIER)
    refine wpB_bar (i := 7) (by kernel_rfl) (get_of_drop rfl) (by kernel_rfl) (fun K hK => ?_)
    go_simp
    refine hK.out _ _ (fun _ : World => True) ?_
    clear hHeld hK K
    have hHeld := trivial
    try simp only [Act.put, List.setIfInBounds_toArray, List.set_cons_zero, List.set_cons_succ]
    refine wpB_done (by kernel_rfl) ?_ _
    clear hrU U_11 X_0 X_1 X_2 X_3 X_4 X_5 X_6 X_7 hHeld
    have HOK4 := hid (HOK1.out.change (k := m.src) (by rw [HN1.out]; exact HS.out) HMR.out)
    go_wp2_with fail
    refine (decide_any H4.out HOK4.out (by have := HOK4.out.lens; omega) (by have := HOU.out; show r1.out.length ≤ _; omega)).mono ?_
    rintro e wg ⟨A', n', c', O', rfl, hg, hog, kg⟩
    have HG := hid hg
    have HOG := hid hog
    have KG := hid kg
    clear hg hog kg
    go_wp2_with fail
    go_end0
    have e1 : turnR r m = decideR { r1 with chgs := ups m.src m r1.chgs } := by rw [HRR.out]; unfold turn2R; rw [if_neg (fun h => absurd (h.1.symm.trans HKD.out) (by decide)), if_pos ⟨HKD.out, HCH1.out⟩]
    rw [e1]
    have KE : Chg (fun j => M4 p b1 b2 b3 j ∨ (Value.slice none 0 0).ownBlock = some j) w wf := (KC.out.trans CE.out (fun _ h _ => h.elim)).trans KF.out (fun j hj hl => by have := HBb.out; omega)
    have HB9 := HG.out
    rw [HX1.out] at HB9
    exact turn_end KE HO1.out KD.out (HH.out.back C1.out.size HB9) HOG.out KG.out (.inr (.inr (.inr rfl)))
  · have HVL := hid hvl
    obtain ⟨wc, hwc⟩ : ∃ q_, q_ = wb := ⟨_, rfl⟩
    rw [← hwc]
    have KC := hid (show Chg (fun j => M4 p b1 b2 b3 j ∨ (Value.slice none 0 0).ownBlock = some j) w wc by rw [hwc]; exact CB.out.mono (fun _ h _ => h.elim))
    have BXc := hid (show wc.heap[b]? = some (.cells #[.int .i64 m.kind, .int .i64 m.view, .int .i64 m.src, .int .i64 m.dst, .int .i64 m.op, .int .i64 m.commit, .int .i64 m.normal, .slice B k d] 41 (0, 0)) by rw [hwc]; exact BXb.out)
    obtain ⟨O1, hO1⟩ : ∃ q_, q_ = Value.slice none 0 0 := ⟨_, rfl⟩
    have HO1 := hid (show ∀ j, O1.ownBlock = some j → (Value.slice none 0 0).ownBlock = some j ∨ w.heap.size ≤ j from fun j hj => .inl (by rw [← hO1]; exact hj))
    obtain ⟨r1, hr1⟩ : ∃ q_, q_ = r := ⟨_, rfl⟩
    have HOK1 := hid (show RpOk r1 by rw [hr1]; exact HOK.out)
    have HRR := hid (show turnR r m = turn2R r1 m by unfold turnR; rw [if_neg HNP.out, if_neg HVL.out, hr1])
    have HN1 := hid (show r1.n = r.n by rw [hr1])
    have HOU := hid (show r1.out.length ≤ 710 by rw [hr1]; have := HO.out; omega)
    have H2 := hid (show Rep w1 wc p b1 b2 b3 X1 r1 A n c O1 by rw [hwc, hr1, hO1]; exact HB.out)
    cases hch : r.ch
    · have hch1 : r1.ch = false := by rw [hr1]; exact hch
      clear hch
      clear hwc hO1 hr1
      have BP2 := hid H2.out.blk
      have P_8 : wc.cell? ⟨p, 8, none⟩ = some (.bool false) := by rw [← hch1]; exact (cellAt BP2.out 8).trans rfl
      have X_0 : wc.cell? ⟨b, 0, none⟩ = some (.int .i64 5) := by rw [← HKD.out]; exact (cellAt BXc.out 0).trans rfl
      have HCH1 := hid hch1
      clear hch1
      go_wp2_with fail
      clear P_8 X_0
      have L1 := hid H2.out.log.1
      have HST := hid HOK1.out.stn
      have HN64 := hid (show n ≤ 64 by have h1 := L1.out; have h2 := HST.out.2.2.1; omega)
      have X_2 : ∀ wx, Chg (fun _ => False) wc wx → wx.cell? ⟨b, 2, none⟩ = some (.int .i64 m.src) := fun wx hx => (cellAt (hx.blk BXc.out (fun h => h)) 2).trans rfl
      refine wpB_start (fun wx : World => Chg (fun _ => False) wc wx) (by kernel_rfl) ?_
      have hHeld : (fun wx : World => Chg (fun _ => False) wc wx) _ := (Chg.refl (fun _ => False) wc).drew
      -- 0: t76 := move t0 : 30
      refine wpB_take (i := 0) (v := ?_) (get_of_drop rfl) (by kernel_rfl) (by kernel_rfl) (by kernel_rfl) (by kernel_rfl) (fun _ _ _ h => h) (Or.inl ⟨by rfl, ?_⟩) hHeld ?_
      rotate_left
      · (intro w hSw; (try dsimp only at hSw); go_simp <;> with_reducible rfl)
      try simp only [Act.put, List.setIfInBounds_toArray, List.set_cons_zero, List.set_cons_succ]
      -- 1: t77 := fieldAddr 41 t3 2 : 0
      refine wpB_take (i := 1) (v := ?_) (get_of_drop rfl) (by kernel_rfl) (by kernel_rfl) (by kernel_rfl) (by kernel_rfl) (fun _ _ _ h => h) (Or.inl ⟨by rfl, ?_⟩) hHeld ?_
      rotate_left
      · (intro w hSw; (try dsimp only at hSw); go_simp <;> with_reducible rfl)
      try simp only [Act.put, List.setIfInBounds_toArray, List.set_cons_zero, List.set_cons_succ]
      -- 2: t78 := load 3 t77 : 3
      refine wpB_take (i := 2) (v := ?_) (get_of_drop rfl) (by kernel_rfl) (by kernel_rfl) (by kernel_rfl) (by kernel_rfl) (fun _ _ _ h => h) (Or.inl ⟨by rfl, ?_⟩) hHeld ?_
      rotate_left
      · (intro w hSw; (try dsimp only at hSw); go_simp <;> with_reducible rfl)
      try simp only [Act.put, List.setIfInBounds_toArray, List.set_cons_zero, List.set_cons_succ]
      -- 3: t79 := move t0 : 30
      refine wpB_take (i := 3) (v := ?_) (get_of_drop rfl) (by kernel_rfl) (by kernel_rfl) (by kernel_rfl) (by kernel_rfl) (fun _ _ _ h => h) (Or.inl ⟨by rfl, ?_⟩) hHeld ?_
      rotate_left
      · (intro w hSw; (try dsimp only at hSw); go_simp <;> with_reducible rfl)
      try simp only [Act.put, List.setIfInBounds_toArray, List.set_cons_zero, List.set_cons_succ]
      -- 4: t80 := CALL fn54(t79, #i64:6) : 41
      refine wpB_act (i := 4) (by kernel_rfl) (get_of_drop rfl) (fun K hK => ?_)
      go_simp
      refine (told_any (H2.out.far hHeld) HN64.out).mono ?_
      rintro e' wt ⟨rfl, ht⟩
      have HTW := hid (show Chg (fun _ => False) wc wt from hHeld.trans ht (fun _ h _ => h))
      clear ht
      refine hK.out _ _ ?_ (fun hHeld2 => ?_)
      · first | assumption | exact HTW.out
      clear hHeld hK K
      have hHeld := hHeld2
      clear hHeld2
      try simp only [Act.put, List.setIfInBounds_toArray, List.set_cons_zero, List.set_cons_succ]
      -- 5: t81 := CALL fn53(t76, t78, t80) : 0 (BARRIER)
      refine wpB_bar (i := 5) (by kernel_rfl) (get_of_drop rfl) (by kernel_rfl) (fun K hK => ?_)
      go_simp
      refine (send_any (m := ⟨6, 0, 0, 0, (n : Int), r1.s.commit, 0, r1.s.log⟩) (H2.out.far HTW.out) ((H2.out.log).chg HTW.out (fun _ _ h => h)) (by have := HN64.out; omega) (fits_right HST.out.2.2.2.2.2) ⟨show NumW 6 by decide, numW_of (by have := HN64.out; show _ ≤ (n : Int) ∧ (n : Int) ≤ _; omega), numW_of (by have := HST.out; show _ ≤ r1.s.commit ∧ r1.s.commit ≤ _; omega), show NumW 0 by decide⟩ ⟨numW_of (by have := HST.out; omega), numW_of (by have := HOK1.out.cfg; omega), HSW.out⟩ (by have := HOU.out; show r1.out.length ≤ _; omega)).mono ?_
      rintro e' wg ⟨O', rfl, hg, hog, kg⟩
      have HG := hid hg
      have HOG := hid hog
      have KG := hid kg
      clear hg hog kg
      refine hK.out _ _ (fun _ : World => True) ?_
      clear hHeld hK K
      have hHeld := trivial
      try simp only [Act.put, List.setIfInBounds_toArray, List.set_cons_zero, List.set_cons_succ]
      refine wpB_done (by kernel_rfl) ?_ _
      go_wp2_with fail
      go_end0
      have e1 : turnR r m = sendR r1 m.src ⟨6, 0, 0, 0, (n : Int), r1.s.commit, 0, r1.s.log⟩ := by
        rw [HRR.out]
        unfold turn2R
        rw [if_neg (fun h => absurd (h.1.symm.trans HKD.out) (by decide)), if_neg (fun h => by rw [HCH1.out] at h; exact absurd h.2 (by decide)), if_pos HKD.out]
        unfold toldR
        rw [L1.out]
      rw [e1]
      have HB9 := HG.out
      rw [HX1.out] at HB9
      have CT : Chg (fun j => M4 p b1 b2 b3 j ∨ (Value.slice none 0 0).ownBlock = some j) w wt := KC.out.trans HTW.out (fun _ h _ => h.elim)
      refine ⟨A, n, c, O', rfl, HH.out.back C1.out.size HB9, fun j hj => ?_, CT.trans KG.out (fun j hj hl => ?_)⟩
      · rcases HOG.out j hj with h | h
        · exact HO1.out j h
        · exact .inr (Nat.le_trans CT.size h)
      · rcases hj with h | h
        · exact .inl (.inl h)
        · rcases HO1.out j h with h | h
          · exact .inr h
          · omega
    · have hch1 : r1.ch = true := by rw [hr1]; exact hch
      clear hch
      clear hwc hO1 hr1
      have BP2 := hid H2.out.blk
      have P_8 : wc.cell? ⟨p, 8, none⟩ = some (.bool true) := by rw [← hch1]; exact (cellAt BP2.out 8).trans rfl
      have X_0 : wc.cell? ⟨b, 0, none⟩ = some (.int .i64 5) := by rw [← HKD.out]; exact (cellAt BXc.out 0).trans rfl
      have X_7 : wc.cell? ⟨b, 7, none⟩ = some (.slice B k d) := (cellAt BXc.out 7).trans rfl
      have HCH1 := hid hch1
      clear hch1
      go_wp2_with fail
      clear P_8 X_0 X_7
      have HKL := hid (show k ≤ 64 by have h1 := HM.out.1; have h2 := (msgR_log HMR.out).1; omega)
      refine (rcopied_any (HM.out.chg KC.out (fun j hj e => by rcases e with e | e; exact HR.out j hj.1 hj.2 e; simp [Value.ownBlock] at e)) (Nat.le_trans HKL.out (by decide)) (fits_right (msgR_log HMR.out).2.1)).mono ?_
      rintro e we ⟨B5, d5, rfl, hat, hce⟩
      have CE := hid hce
      have HAT := hid hat
      have BXe := hid (hce.blk BXc.out (fun h => h))
      clear hce hat
      have Y_7 : we.cell? ⟨b, 7, none⟩ = some (.slice B k d) := (cellAt BXe.out 7).trans rfl
      have Y_f7 : we.frozen? ⟨b, 7, none⟩ = false := freeAt BXe.out 7
      go_wp2_with fail
      obtain ⟨wf, hwf⟩ : ∃ q_, q_ = we.setCell ⟨b, 7, none⟩ (.slice B5 k d5) := ⟨_, rfl⟩
      rw [← hwf]
      have KF := hid (show Chg (fun j => j = b) we wf by rw [hwf]; exact (Chg.refl (fun j => j = b) we).set (fun _ => rfl) _)
      have BXf := hid (show wf.heap[b]? = some (.cells #[.int .i64 m.kind, .int .i64 m.view, .int .i64 m.src, .int .i64 m.dst, .int .i64 m.op, .int .i64 m.commit, .int .i64 m.normal, .slice B5 k d5] 41 (0, 0)) by rw [hwf]; exact blk_set BXe.out 7 _)
      have H3 := hid ((H2.out.far CE.out).apart (KF.out.mono (S' := fun j => X1 j ∧ ¬ M4 p b1 b2 b3 j) (fun j hj _ => by rw [hj]; exact ⟨by rw [HX1.out]; exact .inr rfl, HM4.out⟩)))
      have HBC := hid (lt_of_blk BXc.out)
      have HV5 := hid (show Ty.At entryK wf (Lg X1 O1) B5 k d5 m.log from (HAT.out.at.chg KF.out (fun j hj e => by have := HBC.out; rcases hj with h | h <;> omega)).mono (fun j hj => H2.out.new_lg (by rcases hj with h | h <;> exact h)))
      clear hwf Y_7 Y_f7
      obtain ⟨V, hIM, hCh⟩ := H3.out.chgs
      have HVL := hid (show V.length ≤ 7 by have h1 := congrArg List.length hCh.1; have h2 := HOK1.out.lens; simp at h1; omega)
      obtain ⟨wd, hrd, gd, kd⟩ := (hIM.chg ((Chg.refl (fun _ => False) wf).drew) (fun h => h)).update (P := Try.prog) map_ty3 Try.underlying3 HSW.out (.agg #[.int .i64 m.kind, .int .i64 m.view, .int .i64 m.src, .int .i64 m.dst, .int .i64 m.op, .int .i64 m.commit, .int .i64 m.normal, .slice B5 k d5]) (by have := HVL.out; omega)
      have HRD := hid hrd
      have H4 := hid ((H3.out.far ((Chg.refl (fun _ => False) wf).drew)).chgs_set (m := m) (hCh.chg ((Chg.refl (fun _ => False) wf).drew) (fun _ _ h => h)) kd gd (msgK.chg (msg_shut (by
        have hq := msgR_num HMR.out
        exact ⟨numW_of (by omega), numW_of (by omega), numW_of (by omega), numW_of (by omega), numW_of (by omega), numW_of (by omega), numW_of (by omega)⟩) HV5.out) ((Chg.refl (fun _ => False) wf).drew) (fun _ _ h => h)))
      have KD := hid kd
      clear hrd gd kd hIM hCh
      have BPf := hid H3.out.blk
      have hrU := HRD.out
      have U_11 : ∀ wx, Chg (fun _ => False) wf wx → wx.cell? ⟨p, 11, none⟩ = some (.map (some b3)) := fun wx hx => (cellAt (hx.blk BPf.out (fun h => h)) 11).trans rfl
      have X_0 : ∀ wx, Chg (fun _ => False) wf wx → wx.cell? ⟨b, 0, none⟩ = some (.int .i64 m.kind) := fun wx hx => (cellAt (hx.blk BXf.out (fun h => h)) 0).trans rfl
      have X_1 : ∀ wx, Chg (fun _ => False) wf wx → wx.cell? ⟨b, 1, none⟩ = some (.int .i64 m.view) := fun wx hx => (cellAt (hx.blk BXf.out (fun h => h)) 1).trans rfl
      have X_2 : ∀ wx, Chg (fun _ => False) wf wx → wx.cell? ⟨b, 2, none⟩ = some (.int .i64 m.src) := fun wx hx => (cellAt (hx.blk BXf.out (fun h => h)) 2).trans rfl
      have X_3 : ∀ wx, Chg (fun _ => False) wf wx → wx.cell? ⟨b, 3, none⟩ = some (.int .i64 m.dst) := fun wx hx => (cellAt (hx.blk BXf.out (fun h => h)) 3).trans rfl
      have X_4 : ∀ wx, Chg (fun _ => False) wf wx → wx.cell? ⟨b, 4, none⟩ = some (.int .i64 m.op) := fun wx hx => (cellAt (hx.blk BXf.out (fun h => h)) 4).trans rfl
      have X_5 : ∀ wx, Chg (fun _ => False) wf wx → wx.cell? ⟨b, 5, none⟩ = some (.int .i64 m.commit) := fun wx hx => (cellAt (hx.blk BXf.out (fun h => h)) 5).trans rfl
      have X_6 : ∀ wx, Chg (fun _ => False) wf wx → wx.cell? ⟨b, 6, none⟩ = some (.int .i64 m.normal) := fun wx hx => (cellAt (hx.blk BXf.out (fun h => h)) 6).trans rfl
      have X_7 : ∀ wx, Chg (fun _ => False) wf wx → wx.cell? ⟨b, 7, none⟩ = some (.slice B5 k d5) := fun wx hx => (cellAt (hx.blk BXf.out (fun h => h)) 7).trans rfl
      refine wpB_start (fun wx : World => Chg (fun _ => False) wf wx) (by kernel_rfl) ?_
      have hHeld : (fun wx : World => Chg (fun _ => False) wf wx) _ := (Chg.refl (fun _ => False) wf).drew
      -- 0: t63 := move t0 : 30
      refine wpB_take (i := 0) (v := ?_) (get_of_drop rfl) (by kernel_rfl) (by kernel_rfl) (by kernel_rfl) (by kernel_rfl) (fun _ _ _ h => h) (Or.inl ⟨by rfl, ?_⟩) hHeld ?_
      rotate_left
      · (intro w hSw; (try dsimp only at hSw); go_simp <;> with_reducible rfl)
      try simp only [Act.put, List.setIfInBounds_toArray, List.set_cons_zero, List.set_cons_succ]
      -- 1: t64 := nilCheck t63 : 0
      refine wpB_take (i := 1) (v := ?_) (get_of_drop rfl) (by kernel_rfl) (by kernel_rfl) (by kernel_rfl) (by kernel_rfl) (fun _ _ _ h => h) (Or.inl ⟨by rfl, ?_⟩) hHeld ?_
      rotate_left
      · (intro w hSw; (try dsimp only at hSw); go_simp <;> with_reducible rfl)
      try simp only [Act.put, List.setIfInBounds_toArray, List.set_cons_zero, List.set_cons_succ]
      -- 2: t65 := fieldAddr 100 t64 5 : 0
      refine wpB_take (i := 2) (v := ?_) (get_of_drop rfl) (by kernel_rfl) (by kernel_rfl) (by kernel_rfl) (by kernel_rfl) (fun _ _ _ h => h) (Or.inl ⟨by rfl, ?_⟩) hHeld ?_
      rotate_left
      · (intro w hSw; (try dsimp only at hSw); go_simp <;> with_reducible rfl)
      try simp only [Act.put, List.setIfInBounds_toArray, List.set_cons_zero, List.set_cons_succ]
      -- 3: t66 := load 98 t65 : 98
      refine wpB_take (i := 3) (v := ?_) (get_of_drop rfl) (by kernel_rfl) (by kernel_rfl) (by kernel_rfl) (by kernel_rfl) (fun _ _ _ h => h) (Or.inl ⟨by rfl, ?_⟩) hHeld ?_
      rotate_left
      · (intro w hSw; (try dsimp only at hSw); go_simp <;> with_reducible rfl)
      try simp only [Act.put, List.setIfInBounds_toArray, List.set_cons_zero, List.set_cons_succ]
      -- 4: t67 := fieldAddr 41 t3 2 : 0
      refine wpB_take (i := 4) (v := ?_) (get_of_drop rfl) (by kernel_rfl) (by kernel_rfl) (by kernel_rfl) (by kernel_rfl) (fun _ _ _ h => h) (Or.inl ⟨by rfl, ?_⟩) hHeld ?_
      rotate_left
      · (intro w hSw; (try dsimp only at hSw); go_simp <;> with_reducible rfl)
      try simp only [Act.put, List.setIfInBounds_toArray, List.set_cons_zero, List.set_cons_succ]
      -- 5: t68 := load 3 t67 : 3
      refine wpB_take (i := 5) (v := ?_) (get_of_drop rfl) (by kernel_rfl) (by kernel_rfl) (by kernel_rfl) (by kernel_rfl) (fun _ _ _ h => h) (Or.inl ⟨by rfl, ?_⟩) hHeld ?_
      rotate_left
      · (intro w hSw; (try dsimp only at hSw); go_simp <;> with_reducible rfl)
      try simp only [Act.put, List.setIfInBounds_toArray, List.set_cons_zero, List.set_cons_succ]
      -- 6: t69 := load 41 t3 : 41
      refine wpB_take (i := 6) (v := ?_) (get_of_drop rfl) (by kernel_rfl) (by kernel_rfl) (by kernel_rfl) (by kernel_rfl) (fun _ _ _ h => h) (Or.inl ⟨by rfl, ?_⟩) hHeld ?_
      rotate_left
      · (intro w hSw; (try dsimp only at hSw); go_simp <;> with_reducible rfl)
      try simp only [Act.put, List.setIfInBounds_toArray, List.set_cons_zero, List.set_cons_succ]
      -- 7: t- := mapUpdate 98 t66 t68 t69 : 0 (BARRIER)
      refine wpB_bar (i := 7) (by kernel_rfl) (get_of_drop rfl) (by kernel_rfl) (fun K hK => ?_)
      go_simp
      refine hK.out _ _ (fun _ : World => True) ?_
      clear hHeld hK K
      have hHeld := trivial
      try simp only [Act.put, List.setIfInBounds_toArray, List.set_cons_zero, List.set_cons_succ]
      refine wpB_done (by kernel_rfl) ?_ _
      clear hrU U_11 X_0 X_1 X_2 X_3 X_4 X_5 X_6 X_7 hHeld
      have HOK4 := hid (HOK1.out.change (k := m.src) (by rw [HN1.out]; exact HS.out) HMR.out)
      go_wp2_with fail
      refine (decide_any H4.out HOK4.out (by have := HOK4.out.lens; omega) (by have := HOU.out; show r1.out.length ≤ _; omega)).mono ?_
      rintro e wg ⟨A', n', c', O', rfl, hg, hog, kg⟩
      have HG := hid hg
      have HOG := hid hog
      have KG := hid kg
      clear hg hog kg
      go_wp2_with fail
      go_end0
      have e1 : turnR r m = decideR { r1 with chgs := ups m.src m r1.chgs } := by rw [HRR.out]; unfold turn2R; rw [if_neg (fun h => absurd (h.1.symm.trans HKD.out) (by decide)), if_pos ⟨HKD.out, HCH1.out⟩]
      rw [e1]
      have KE : Chg (fun j => M4 p b1 b2 b3 j ∨ (Value.slice none 0 0).ownBlock = some j) w wf := (KC.out.trans CE.out (fun _ h _ => h.elim)).trans KF.out (fun j hj hl => by have := HBb.out; omega)
      have HB9 := HG.out
      rw [HX1.out] at HB9
      exact turn_end KE HO1.out KD.out (HH.out.back C1.out.size HB9) HOG.out KG.out (.inr (.inr (.inr rfl)))
end Go.Proofs.Ytaldoajdhbndhaa.Pa
