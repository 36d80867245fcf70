/- Texts of this claim, one behind the other: RepS, RepT. -/
import Derived.Test.YtaldoajdhbndhaaMC

/- turn. -/

namespace Go.Proofs.Ytaldoajdhbndhaa.Pa

set_option linter.unusedVariables false

set_option linter.unusedSimpArgs false

open Go.RowKit Go.Proofs.Ytaldoajdhbndhaa.C

attribute [local go_sem] max2_int min2_int max_two min_two

/-- The end of turn: a map was set, and a function called. -/
theorem turn_end {w0 w wc wd we : World} {p b1 b2 b3 q : Nat} {X : Nat → Prop} {r : Rp} {A : Option Addr} {n c : Nat} {O O1 O' : Value} (KC : Chg (fun j => M4 p b1 b2 b3 j ∨ O.ownBlock = some j) w wc) (HO1 : ∀ j, O1.ownBlock = some j → O.ownBlock = some j ∨ w.heap.size ≤ j) (KD : Chg (fun k => k = q) wc.drew wd) (HE : Rep w0 we p b1 b2 b3 X r A n c O') (HOE : ∀ k, O'.ownBlock = some k → O1.ownBlock = some k ∨ wd.heap.size ≤ k) (KE : Chg (fun k => M4 p b1 b2 b3 k ∨ O1.ownBlock = some k) wd we) (hq : M4 p b1 b2 b3 q) :
    RepTo w0 w p b1 b2 b3 X O (.tuple #[]) r (.returned (.tuple #[])) we := by
  have C2 : Chg (fun j => M4 p b1 b2 b3 j ∨ O.ownBlock = some j) w wd := (KC.drew).trans KD (fun j h _ => .inl (by rw [h]; exact hq))
  refine ⟨A, n, c, O', rfl, HE, fun j hj => ?_, C2.trans KE (fun j hj hl => ?_)⟩
  · rcases HOE j hj with h | h
    · exact HO1 j h
    · exact .inr (Nat.le_trans C2.size h)
  · rcases hj with h | h
    · exact .inl h
    · rcases HO1 j h with h | h
      · exact .inr h
      · omega
set_option maxHeartbeats 4000000 in
set_option maxRecDepth 100000 in
theorem turn4_any {w0 w : World} {p b1 b2 b3 : Nat} {X : Nat → Prop} {r : Rp} {A : Option Addr} {n c : Nat} {O : Value} (h : Rep w0 w p b1 b2 b3 X r A n c O) {m : Msg} {R : Nat → Prop} {B : Option Addr} {k d : Nat} (hm : Ty.At entryK w R B k d m.log) (hR : ∀ j, R j → j < w.heap.size → ¬ (M4 p b1 b2 b3 j ∨ O.ownBlock = some j)) (hok : RpOk r) (hmr : msgR m = true) (hs : 0 ≤ m.src ∧ m.src < r.n) (ho : r.out.length ≤ 700) (hk : m.kind = 4) :
    Calls Try.prog 51 #[.pointer (some ⟨p, 0, none⟩), .agg #[.int .i64 m.kind, .int .i64 m.view, .int .i64 m.src, .int .i64 m.dst, .int .i64 m.op, .int .i64 m.commit, .int .i64 m.normal, .slice B k d]] w (RepTo w0 w p b1 b2 b3 X O (.tuple #[]) (turnR r m)) := by
  obtain ⟨w1, hw1⟩ : ∃ q_, q_ = (w.alloc (.cells #[.int .i64 m.kind, .int .i64 m.view, .int .i64 m.src, .int .i64 m.dst, .int .i64 m.op, .int .i64 m.commit, .int .i64 m.normal, .slice B k d] 41)) := ⟨_, rfl⟩
  have C1 := hid (show Chg (fun _ => False) w w1 by rw [hw1]; exact (Chg.refl _ w).alloc _)
  have BX := hid (show w1.heap[w.heap.size]? = some (.cells #[.int .i64 m.kind, .int .i64 m.view, .int .i64 m.src, .int .i64 m.dst, .int .i64 m.op, .int .i64 m.commit, .int .i64 m.normal, .slice B k d] 41 (0, 0)) by
    rw [hw1]
    have := blk_new w (.cells #[.int .i64 m.kind, .int .i64 m.view, .int .i64 m.src, .int .i64 m.dst, .int .i64 m.op, .int .i64 m.commit, .int .i64 m.normal, .slice B k d] 41)
    simpa using this)
  have SZ := hid (show w1.heap.size = w.heap.size + 1 by rw [hw1]; simp)
  have H1 := hid (h.far C1.out)
  obtain ⟨b, hb⟩ : ∃ q_, q_ = w.heap.size := ⟨_, rfl⟩
  have HBb := hid hb
  replace BX := hid (show w1.heap[b]? = some (.cells #[.int .i64 m.kind, .int .i64 m.view, .int .i64 m.src, .int .i64 m.dst, .int .i64 m.op, .int .i64 m.commit, .int .i64 m.normal, .slice B k d] 41 (0, 0)) by rw [hb]; exact BX.out)
  have HSZ := hid (show w1.heap.size = b + 1 by rw [hb]; exact SZ.out)
  have HPB := hid (show p < b by rw [hb]; exact lt_of_blk h.blk)
  have HW0 := hid (show w0.heap.size ≤ b by rw [hb]; exact h.sz)
  have HM := hid (hm.bound.chg C1.out (fun _ _ h => h))
  have HR := hid hR
  have HOK := hid hok
  have HMR := hid hmr
  have HS := hid hs
  have HO := hid ho
  have HKD := hid hk
  have HSW := hid (show (Lit.int .i64 m.src).wf = true from numW_of (by have := (msgR_num hmr).2.2.2.1; omega))
  have HVW := hid (show NumW m.view from numW_of (by have := (msgR_num hmr).2.1; omega))
  have HIW := hid (show NumW r.id from numW_of (by have := hok.cfg; omega))
  have BP := hid H1.out.blk
  have HOB := hid h.outB
  have HMB := hid (show ¬ (M4 p b1 b2 b3 b ∨ O.ownBlock = some b) from fun e => by rcases e with e | e; have h4 := h.sub.2 b (h.sub.1 b e); have := HW0.out; omega; have := (HOB.out b e).2; omega)
  clear h hm hR hok hmr hs ho hk
  go_enter Try.func51, Try.ntmps51
  go_wp2_with fail
  rw [← hw1, ← hb]
  clear hw1 hb SZ
  have U_1 : ∀ wx, Chg (fun _ => False) w1 wx → wx.cell? ⟨p, 1, none⟩ = some (.int .i64 r.id) := fun wx hx => (cellAt (hx.blk BP.out (fun h => h)) 1).trans rfl
  have U_3 : ∀ wx, Chg (fun _ => False) w1 wx → wx.cell? ⟨p, 3, none⟩ = some (.int .i64 r.s.view) := fun wx hx => (cellAt (hx.blk BP.out (fun h => h)) 3).trans rfl
  have X_0 : ∀ wx, Chg (fun _ => False) w1 wx → wx.cell? ⟨b, 0, none⟩ = some (.int .i64 m.kind) := fun wx hx => (cellAt (hx.blk BX.out (fun h => h)) 0).trans rfl
  have X_1 : ∀ wx, Chg (fun _ => False) w1 wx → wx.cell? ⟨b, 1, none⟩ = some (.int .i64 m.view) := fun wx hx => (cellAt (hx.blk BX.out (fun h => h)) 1).trans rfl
  rw [HKD.out] at X_0
  refine wpB_start (fun wx : World => Chg (fun _ => False) w1 wx) (by kernel_rfl) ?_
  have hHeld : (fun wx : World => Chg (fun _ => False) w1 wx) _ := (Chg.refl (fun _ => False) w1).drew
  -- 0: t4 := fieldAddr 41 t3 0 : 0
  refine wpB_take (i := 0) (v := ?_) (get_of_drop rfl) (by kernel_rfl) (by kernel_rfl) (by kernel_rfl) (by kernel_rfl) (fun _ _ _ h => h) (Or.inl ⟨by rfl, ?_⟩) hHeld ?_
  rotate_left
  · (intro w hSw; (try dsimp only at hSw); go_simp <;> with_reducible rfl)
  try simp only [Act.put, List.setIfInBounds_toArray, List.set_cons_zero, List.set_cons_succ]
  -- 1: t5 := load 3 t4 : 3
  refine wpB_take (i := 1) (v := ?_) (get_of_drop rfl) (by kernel_rfl) (by kernel_rfl) (by kernel_rfl) (by kernel_rfl) (fun _ _ _ h => h) (Or.inl ⟨by rfl, ?_⟩) hHeld ?_
  rotate_left
  · (intro w hSw; (try dsimp only at hSw); go_simp <;> with_reducible rfl)
  try simp only [Act.put, List.setIfInBounds_toArray, List.set_cons_zero, List.set_cons_succ]
  -- 2: t6 := binOp BinOp.eql 3 t5 #i64:5 3 : 4
  refine wpB_take (i := 2) (v := ?_) (get_of_drop rfl) (by kernel_rfl) (by kernel_rfl) (by kernel_rfl) (by kernel_rfl) (fun _ _ _ h => h) (Or.inl ⟨by rfl, ?_⟩) hHeld ?_
  rotate_left
  · (intro w hSw; (try dsimp only at hSw); go_simp <;> with_reducible rfl)
  try simp only [Act.put, List.setIfInBounds_toArray, List.set_cons_zero, List.set_cons_succ]
  -- 3: t7 := move t6 : 4
  refine wpB_take (i := 3) (v := ?_) (get_of_drop rfl) (by kernel_rfl) (by kernel_rfl) (by kernel_rfl) (by kernel_rfl) (fun _ _ _ h => h) (Or.inl ⟨by rfl, ?_⟩) hHeld ?_
  rotate_left
  · (intro w hSw; (try dsimp only at hSw); go_simp <;> with_reducible rfl)
  try simp only [Act.put, List.setIfInBounds_toArray, List.set_cons_zero, List.set_cons_succ]
  -- 4: t8 := move t0 : 30   [if ⟨3, true⟩]
  refine wpB_take (i := 4) (v := undef) (get_of_drop rfl) (by kernel_rfl) (by kernel_rfl) (by kernel_rfl) (by kernel_rfl) (fun _ _ _ h => h) (Or.inr ⟨by rfl, rfl⟩) hHeld ?_
  try simp only [Act.put, List.setIfInBounds_toArray, List.set_cons_zero, List.set_cons_succ]
  -- 5: t9 := fieldAddr 41 t3 1 : 0   [if ⟨3, true⟩]
  refine wpB_take (i := 5) (v := undef) (get_of_drop rfl) (by kernel_rfl) (by kernel_rfl) (by kernel_rfl) (by kernel_rfl) (fun _ _ _ h => h) (Or.inr ⟨by rfl, rfl⟩) hHeld ?_
  try simp only [Act.put, List.setIfInBounds_toArray, List.set_cons_zero, List.set_cons_succ]
  -- 6: t10 := load 3 t9 : 3   [if ⟨3, true⟩]
  refine wpB_take (i := 6) (v := undef) (get_of_drop rfl) (by kernel_rfl) (by kernel_rfl) (by kernel_rfl) (by kernel_rfl) (fun _ _ _ h => h) (Or.inr ⟨by rfl, rfl⟩) hHeld ?_
  try simp only [Act.put, List.setIfInBounds_toArray, List.set_cons_zero, List.set_cons_succ]
  -- 7: t11 := CALL fn48(t8, t10) : 3   [if ⟨3, true⟩]
  refine wpB_take (i := 7) (v := undef) (get_of_drop rfl) (by kernel_rfl) (by kernel_rfl) (by kernel_rfl) (by kernel_rfl) (fun _ _ _ h => h) (Or.inr ⟨by rfl, rfl⟩) hHeld ?_
  try simp only [Act.put, List.setIfInBounds_toArray, List.set_cons_zero, List.set_cons_succ]
  -- 8: t12 := move t0 : 30   [if ⟨3, true⟩]
  refine wpB_take (i := 8) (v := undef) (get_of_drop rfl) (by kernel_rfl) (by kernel_rfl) (by kernel_rfl) (by kernel_rfl) (fun _ _ _ h => h) (Or.inr ⟨by rfl, rfl⟩) hHeld ?_
  try simp only [Act.put, List.setIfInBounds_toArray, List.set_cons_zero, List.set_cons_succ]
  -- 9: t13 := nilCheck t12 : 0   [if ⟨3, true⟩]
  refine wpB_take (i := 9) (v := undef) (get_of_drop rfl) (by kernel_rfl) (by kernel_rfl) (by kernel_rfl) (by kernel_rfl) (fun _ _ _ h => h) (Or.inr ⟨by rfl, rfl⟩) hHeld ?_
  try simp only [Act.put, List.setIfInBounds_toArray, List.set_cons_zero, List.set_cons_succ]
  -- 10: t14 := fieldAddr 100 t13 0 : 0   [if ⟨3, true⟩]
  refine wpB_take (i := 10) (v := undef) (get_of_drop rfl) (by kernel_rfl) (by kernel_rfl) (by kernel_rfl) (by kernel_rfl) (fun _ _ _ h => h) (Or.inr ⟨by rfl, rfl⟩) hHeld ?_
  try simp only [Act.put, List.setIfInBounds_toArray, List.set_cons_zero, List.set_cons_succ]
  -- 11: t15 := fieldAddr 23 t14 1 : 0   [if ⟨3, true⟩]
  refine wpB_take (i := 11) (v := undef) (get_of_drop rfl) (by kernel_rfl) (by kernel_rfl) (by kernel_rfl) (by kernel_rfl) (fun _ _ _ h => h) (Or.inr ⟨by rfl, rfl⟩) hHeld ?_
  try simp only [Act.put, List.setIfInBounds_toArray, List.set_cons_zero, List.set_cons_succ]
  -- 12: t16 := load 3 t15 : 3   [if ⟨3, true⟩]
  refine wpB_take (i := 12) (v := undef) (get_of_drop rfl) (by kernel_rfl) (by kernel_rfl) (by kernel_rfl) (by kernel_rfl) (fun _ _ _ h => h) (Or.inr ⟨by rfl, rfl⟩) hHeld ?_
  try simp only [Act.put, List.setIfInBounds_toArray, List.set_cons_zero, List.set_cons_succ]
  -- 13: t17 := binOp BinOp.neq 3 t11 t16 3 : 4   [if ⟨3, true⟩]
  refine wpB_take (i := 13) (v := undef) (get_of_drop rfl) (by kernel_rfl) (by kernel_rfl) (by kernel_rfl) (by kernel_rfl) (fun _ _ _ h => h) (Or.inr ⟨by rfl, rfl⟩) hHeld ?_
  try simp only [Act.put, List.setIfInBounds_toArray, List.set_cons_zero, List.set_cons_succ]
  -- 14: t18 := pick t7 t17 #false : 4
  refine wpB_take (i := 14) (v := ?_) (get_of_drop rfl) (by kernel_rfl) (by kernel_rfl) (by kernel_rfl) (by kernel_rfl) (fun _ _ _ h => h) (Or.inl ⟨by rfl, ?_⟩) hHeld ?_
  rotate_left
  · (intro w hSw; (try dsimp only at hSw); go_simp <;> with_reducible rfl)
  try simp only [Act.put, List.setIfInBounds_toArray, List.set_cons_zero, List.set_cons_succ]
  refine wpB_done (by kernel_rfl) ?_ _
  go_wp2_with fail
  obtain ⟨wa, hwa⟩ : ∃ q_, q_ = w1.drew := ⟨_, rfl⟩
  rw [← hwa]
  have CA := hid (show Chg (fun _ => False) w wa by rw [hwa]; exact C1.out.drew)
  have HA := hid (show Rep w0 wa p b1 b2 b3 X r A n c O by rw [hwa]; exact H1.out.far ((Chg.refl (fun _ => False) w1).drew))
  have BXa := hid (show wa.heap[b]? = some (.cells #[.int .i64 m.kind, .int .i64 m.view, .int .i64 m.src, .int .i64 m.dst, .int .i64 m.op, .int .i64 m.commit, .int .i64 m.normal, .slice B k d] 41 (0, 0)) by rw [hwa]; exact blk_drew BX.out)
  have BPa := hid HA.out.blk
  clear hwa hHeld U_1 U_3 X_0 X_1
  have U_3 : ∀ wx, Chg (fun _ => False) wa wx → wx.cell? ⟨p, 3, none⟩ = some (.int .i64 r.s.view) := fun wx hx => (cellAt (hx.blk BPa.out (fun h => h)) 3).trans rfl
  have X_1 : ∀ wx, Chg (fun _ => False) wa wx → wx.cell? ⟨b, 1, none⟩ = some (.int .i64 m.view) := fun wx hx => (cellAt (hx.blk BXa.out (fun h => h)) 1).trans rfl
  refine wpB_start (fun wx : World => Chg (fun _ => False) wa wx) (by kernel_rfl) ?_
  have hHeld : (fun wx : World => Chg (fun _ => False) wa wx) _ := (Chg.refl (fun _ => False) wa).drew
  -- 0: t19 := fieldAddr 41 t3 1 : 0
  refine wpB_take (i := 0) (v := ?_) (get_of_drop rfl) (by kernel_rfl) (by kernel_rfl) (by kernel_rfl) (by kernel_rfl) (fun _ _ _ h => h) (Or.inl ⟨by rfl, ?_⟩) hHeld ?_
  rotate_left
  · (intro w hSw; (try dsimp only at hSw); go_simp <;> with_reducible rfl)
  try simp only [Act.put, List.setIfInBounds_toArray, List.set_cons_zero, List.set_cons_succ]
  -- 1: t20 := load 3 t19 : 3
  refine wpB_take (i := 1) (v := ?_) (get_of_drop rfl) (by kernel_rfl) (by kernel_rfl) (by kernel_rfl) (by kernel_rfl) (fun _ _ _ h => h) (Or.inl ⟨by rfl, ?_⟩) hHeld ?_
  rotate_left
  · (intro w hSw; (try dsimp only at hSw); go_simp <;> with_reducible rfl)
  try simp only [Act.put, List.setIfInBounds_toArray, List.set_cons_zero, List.set_cons_succ]
  -- 2: t21 := move t0 : 30
  refine wpB_take (i := 2) (v := ?_) (get_of_drop rfl) (by kernel_rfl) (by kernel_rfl) (by kernel_rfl) (by kernel_rfl) (fun _ _ _ h => h) (Or.inl ⟨by rfl, ?_⟩) hHeld ?_
  rotate_left
  · (intro w hSw; (try dsimp only at hSw); go_simp <;> with_reducible rfl)
  try simp only [Act.put, List.setIfInBounds_toArray, List.set_cons_zero, List.set_cons_succ]
  -- 3: t22 := nilCheck t21 : 0
  refine wpB_take (i := 3) (v := ?_) (get_of_drop rfl) (by kernel_rfl) (by kernel_rfl) (by kernel_rfl) (by kernel_rfl) (fun _ _ _ h => h) (Or.inl ⟨by rfl, ?_⟩) hHeld ?_
  rotate_left
  · (intro w hSw; (try dsimp only at hSw); go_simp <;> with_reducible rfl)
  try simp only [Act.put, List.setIfInBounds_toArray, List.set_cons_zero, List.set_cons_succ]
  -- 4: t23 := fieldAddr 100 t22 1 : 0
  refine wpB_take (i := 4) (v := ?_) (get_of_drop rfl) (by kernel_rfl) (by kernel_rfl) (by kernel_rfl) (by kernel_rfl) (fun _ _ _ h => h) (Or.inl ⟨by rfl, ?_⟩) hHeld ?_
  rotate_left
  · (intro w hSw; (try dsimp only at hSw); go_simp <;> with_reducible rfl)
  try simp only [Act.put, List.setIfInBounds_toArray, List.set_cons_zero, List.set_cons_succ]
  -- 5: t24 := fieldAddr 26 t23 0 : 0
  refine wpB_take (i := 5) (v := ?_) (get_of_drop rfl) (by kernel_rfl) (by kernel_rfl) (by kernel_rfl) (by kernel_rfl) (fun _ _ _ h => h) (Or.inl ⟨by rfl, ?_⟩) hHeld ?_
  rotate_left
  · (intro w hSw; (try dsimp only at hSw); go_simp <;> with_reducible rfl)
  try simp only [Act.put, List.setIfInBounds_toArray, List.set_cons_zero, List.set_cons_succ]
  -- 6: t25 := load 3 t24 : 3
  refine wpB_take (i := 6) (v := ?_) (get_of_drop rfl) (by kernel_rfl) (by kernel_rfl) (by kernel_rfl) (by kernel_rfl) (fun _ _ _ h => h) (Or.inl ⟨by rfl, ?_⟩) hHeld ?_
  rotate_left
  · (intro w hSw; (try dsimp only at hSw); go_simp <;> with_reducible rfl)
  try simp only [Act.put, List.setIfInBounds_toArray, List.set_cons_zero, List.set_cons_succ]
  -- 7: t26 := binOp BinOp.gtr 3 t20 t25 3 : 4
  refine wpB_take (i := 7) (v := ?_) (get_of_drop rfl) (by kernel_rfl) (by kernel_rfl) (by kernel_rfl) (by kernel_rfl) (fun _ _ _ h => h) (Or.inl ⟨by rfl, ?_⟩) hHeld ?_
  rotate_left
  · (intro w hSw; (try dsimp only at hSw); go_simp <;> with_reducible rfl)
  try simp only [Act.put, List.setIfInBounds_toArray, List.set_cons_zero, List.set_cons_succ]
  refine wpB_done (by kernel_rfl) ?_ _
  obtain ⟨wb, hwb⟩ : ∃ q_, q_ = wa.drew := ⟨_, rfl⟩
  rw [← hwb]
  have CB := hid (show Chg (fun _ => False) w wb by rw [hwb]; exact CA.out.drew)
  have HB := hid (show Rep w0 wb p b1 b2 b3 X r A n c O by rw [hwb]; exact HA.out.far ((Chg.refl (fun _ => False) wa).drew))
  have BXb := hid (show wb.heap[b]? = some (.cells #[.int .i64 m.kind, .int .i64 m.view, .int .i64 m.src, .int .i64 m.dst, .int .i64 m.op, .int .i64 m.commit, .int .i64 m.normal, .slice B k d] 41 (0, 0)) by rw [hwb]; exact blk_drew BXa.out)
  clear hwb hHeld
  clear U_3 X_1
  have hN : ¬ (m.kind = 5 ∧ primR r m.view ≠ r.id) := fun h => absurd (h.1.symm.trans HKD.out) (by decide)
  have HNP := hid hN
  clear hN
  by_cases hvl : r.s.view < m.view
  · have HVL := hid hvl
    have X_1 : wb.cell? ⟨b, 1, none⟩ = some (.int .i64 m.view) := (cellAt BXb.out 1).trans rfl
    go_wp2_with fail
    clear X_1
    refine (begin_any HB.out HOK.out.cfg.1 ⟨HVW.out, HIW.out⟩ (by have := HO.out; omega)).mono ?_
    rintro e wc ⟨O1, rfl, hc, hoc, kc⟩
    have HOC := hid hoc
    have KC := hid (show Chg (fun j => M4 p b1 b2 b3 j ∨ O.ownBlock = some j) w wc from (CB.out.mono (S' := fun j => M4 p b1 b2 b3 j ∨ O.ownBlock = some j) (fun _ h _ => h.elim)).trans kc (fun _ h _ => h))
    have BXc := hid (kc.blk BXb.out HMB.out)
    have HO1 := hid (show ∀ j, O1.ownBlock = some j → O.ownBlock = some j ∨ w.heap.size ≤ j from fun j hj => (hoc j hj).imp id (fun h => Nat.le_trans CB.out.size h))
    have HOK1 := hid (HOK.out.begin_ (v := m.view) ⟨HVL.out, (msgR_num HMR.out).2.1.2⟩)
    obtain ⟨lb, hlb, hlb2⟩ := beginR_eq HOK.out m.view
    obtain ⟨r1, hr1⟩ : ∃ q_, q_ = beginR r m.view := ⟨_, rfl⟩
    rw [← hr1] at hc HOK1
    have HRR := hid (show turnR r m = turn2R r1 m by unfold turnR; rw [if_neg HNP.out, if_pos HVL.out, hr1])
    have hch1 : r1.ch = true := by rw [hr1, hlb]; rfl
    have HN1 := hid (show r1.n = r.n by rw [hr1, hlb]; rfl)
    have HOU := hid (show r1.out.length ≤ 710 by rw [hr1, hlb]; have := HO.out; simp; omega)
    have H2 := hid hc
    clear hc hoc kc hr1 hlb hlb2
    have BP2 := hid H2.out.blk
    have IS := hid H2.out.starts
    obtain ⟨wd, hrd, gd, kd⟩ := (IS.out.chg ((Chg.refl (fun _ => False) wc).drew) (fun h => h)).update (P := Try.prog) map_ty2 Try.underlying3 HSW.out (.bool true) (by have := HOK1.out.lens; simp; omega)
    have HRD := hid hrd
    have H3 := hid ((H2.out.far ((Chg.refl (fun _ => False) wc).drew)).starts_set kd gd)
    have KD := hid kd
    clear hrd gd kd
    have P_8 : wc.cell? ⟨p, 8, none⟩ = some (.bool true) := by rw [← hch1]; exact (cellAt BP2.out 8).trans rfl
    have X_0 : wc.cell? ⟨b, 0, none⟩ = some (.int .i64 4) := by rw [← HKD.out]; exact (cellAt BXc.out 0).trans rfl
    have HCH1 := hid hch1
    clear hch1
    go_wp2_with fail
    clear P_8 X_0
    have hrU := HRD.out
    have U_10 : ∀ wx, Chg (fun _ => False) wc wx → wx.cell? ⟨p, 10, none⟩ = some (.map (some b2)) := fun wx hx => (cellAt (hx.blk BP2.out (fun h => h)) 10).trans rfl
    have X_2 : ∀ wx, Chg (fun _ => False) wc wx → wx.cell? ⟨b, 2, none⟩ = some (.int .i64 m.src) := fun wx hx => (cellAt (hx.blk BXc.out (fun h => h)) 2).trans rfl
    refine wpB_start (fun wx : World => Chg (fun _ => False) wc wx) (by kernel_rfl) ?_
    have hHeld : (fun wx : World => Chg (fun _ => False) wc wx) _ := (Chg.refl (fun _ => False) wc).drew
    -- 0: t41 := move t0 : 30
    refine wpB_take (i := 0) (v := ?_) (get_of_drop rfl) (by kernel_rfl) (by kernel_rfl) (by kernel_rfl) (by kernel_rfl) (fun _ _ _ h => h) (Or.inl ⟨by rfl, ?_⟩) hHeld ?_
    rotate_left
    · (intro w hSw; (try dsimp only at hSw); go_simp <;> with_reducible rfl)
    try simp only [Act.put, List.setIfInBounds_toArray, List.set_cons_zero, List.set_cons_succ]
    -- 1: t42 := nilCheck t41 : 0
    refine wpB_take (i := 1) (v := ?_) (get_of_drop rfl) (by kernel_rfl) (by kernel_rfl) (by kernel_rfl) (by kernel_rfl) (fun _ _ _ h => h) (Or.inl ⟨by rfl, ?_⟩) hHeld ?_
    rotate_left
    · (intro w hSw; (try dsimp only at hSw); go_simp <;> with_reducible rfl)
    try simp only [Act.put, List.setIfInBounds_toArray, List.set_cons_zero, List.set_cons_succ]
    -- 2: t43 := fieldAddr 100 t42 4 : 0
    refine wpB_take (i := 2) (v := ?_) (get_of_drop rfl) (by kernel_rfl) (by kernel_rfl) (by kernel_rfl) (by kernel_rfl) (fun _ _ _ h => h) (Or.inl ⟨by rfl, ?_⟩) hHeld ?_
    rotate_left
    · (intro w hSw; (try dsimp only at hSw); go_simp <;> with_reducible rfl)
    try simp only [Act.put, List.setIfInBounds_toArray, List.set_cons_zero, List.set_cons_succ]
    -- 3: t44 := load 97 t43 : 97
    refine wpB_take (i := 3) (v := ?_) (get_of_drop rfl) (by kernel_rfl) (by kernel_rfl) (by kernel_rfl) (by kernel_rfl) (fun _ _ _ h => h) (Or.inl ⟨by rfl, ?_⟩) hHeld ?_
    rotate_left
    · (intro w hSw; (try dsimp only at hSw); go_simp <;> with_reducible rfl)
    try simp only [Act.put, List.setIfInBounds_toArray, List.set_cons_zero, List.set_cons_succ]
    -- 4: t45 := fieldAddr 41 t3 2 : 0
    refine wpB_take (i := 4) (v := ?_) (get_of_drop rfl) (by kernel_rfl) (by kernel_rfl) (by kernel_rfl) (by kernel_rfl) (fun _ _ _ h => h) (Or.inl ⟨by rfl, ?_⟩) hHeld ?_
    rotate_left
    · (intro w hSw; (try dsimp only at hSw); go_simp <;> with_reducible rfl)
    try simp only [Act.put, List.setIfInBounds_toArray, List.set_cons_zero, List.set_cons_succ]
    -- 5: t46 := load 3 t45 : 3
    refine wpB_take (i := 5) (v := ?_) (get_of_drop rfl) (by kernel_rfl) (by kernel_rfl) (by kernel_rfl) (by kernel_rfl) (fun _ _ _ h => h) (Or.inl ⟨by rfl, ?_⟩) hHeld ?_
    rotate_left
    · (intro w hSw; (try dsimp only at hSw); go_simp <;> with_reducible rfl)
    try simp only [Act.put, List.setIfInBounds_toArray, List.set_cons_zero, List.set_cons_succ]
    -- 6: t- := mapUpdate 97 t44 t46 #true : 0 (BARRIER)
    refine wpB_bar (i := 6) (by kernel_rfl) (get_of_drop rfl) (by kernel_rfl) (fun K hK => ?_)
    go_simp
    refine hK.out _ _ (fun _ : World => True) ?_
    clear hHeld hK K
    have hHeld := trivial
    try simp only [Act.put, List.setIfInBounds_toArray, List.set_cons_zero, List.set_cons_succ]
    refine wpB_done (by kernel_rfl) ?_ _
    clear hrU U_10 X_2 hHeld
    have HOK3 := hid (HOK1.out.start (k := m.src) (by rw [HN1.out]; exact HS.out) true)
    go_wp2_with fail
    refine (see_any H3.out HOK3.out (by have := HOK3.out.lens; omega) (by have := HOK3.out.lens; omega) (by have := HOU.out; show r1.out.length ≤ _; omega)).mono ?_
    rintro e we ⟨A', n', c', O', rfl, he, hoe, ke⟩
    have HE := hid he
    have HOE := hid hoe
    have KE := hid ke
    clear he hoe ke
    go_wp2_with fail
    go_end0
    have e1 : turnR r m = seeR { r1 with starts := ups m.src true r1.starts } := by rw [HRR.out]; unfold turn2R; rw [if_pos ⟨HKD.out, HCH1.out⟩]
    rw [e1]
    exact turn_end KC.out HO1.out KD.out HE.out HOE.out KE.out (.inr (.inr (.inl rfl)))
  · have HVL := hid hvl
    obtain ⟨wc, hwc⟩ : ∃ q_, q_ = wb := ⟨_, rfl⟩
    rw [← hwc]
    have KC := hid (show Chg (fun j => M4 p b1 b2 b3 j ∨ O.ownBlock = some j) w wc by rw [hwc]; exact CB.out.mono (fun _ h _ => h.elim))
    have BXc := hid (show wc.heap[b]? = some (.cells #[.int .i64 m.kind, .int .i64 m.view, .int .i64 m.src, .int .i64 m.dst, .int .i64 m.op, .int .i64 m.commit, .int .i64 m.normal, .slice B k d] 41 (0, 0)) by rw [hwc]; exact BXb.out)
    obtain ⟨O1, hO1⟩ : ∃ q_, q_ = O := ⟨_, rfl⟩
    have HO1 := hid (show ∀ j, O1.ownBlock = some j → O.ownBlock = some j ∨ w.heap.size ≤ j from fun j hj => .inl (by rw [← hO1]; exact hj))
    obtain ⟨r1, hr1⟩ : ∃ q_, q_ = r := ⟨_, rfl⟩
    have HOK1 := hid (show RpOk r1 by rw [hr1]; exact HOK.out)
    have HRR := hid (show turnR r m = turn2R r1 m by unfold turnR; rw [if_neg HNP.out, if_neg HVL.out, hr1])
    have HN1 := hid (show r1.n = r.n by rw [hr1])
    have HOU := hid (show r1.out.length ≤ 710 by rw [hr1]; have := HO.out; omega)
    have H2 := hid (show Rep w0 wc p b1 b2 b3 X r1 A n c O1 by rw [hwc, hr1, hO1]; exact HB.out)
    cases hch : r.ch
    · have hch1 : r1.ch = false := by rw [hr1]; exact hch
      clear hch
      clear hwc hO1 hr1
      have BP2 := hid H2.out.blk
      have P_8 : wc.cell? ⟨p, 8, none⟩ = some (.bool false) := by rw [← hch1]; exact (cellAt BP2.out 8).trans rfl
      have X_0 : wc.cell? ⟨b, 0, none⟩ = some (.int .i64 4) := by rw [← HKD.out]; exact (cellAt BXc.out 0).trans rfl
      have HCH1 := hid hch1
      clear hch1
      go_wp2_with fail
      go_end0
      have e1 : turnR r m = r1 := by rw [HRR.out]; unfold turn2R; rw [if_neg (fun h => by rw [HCH1.out] at h; exact absurd h.2 (by decide)), if_neg (fun h => absurd (h.1.symm.trans HKD.out) (by decide)), if_neg (fun h => absurd (h.symm.trans HKD.out) (by decide))]
      rw [e1]
      exact ⟨A, n, c, O1, rfl, H2.out, HO1.out, KC.out⟩
    · have hch1 : r1.ch = true := by rw [hr1]; exact hch
      clear hch
      clear hwc hO1 hr1
      have BP2 := hid H2.out.blk
      have IS := hid H2.out.starts
      obtain ⟨wd, hrd, gd, kd⟩ := (IS.out.chg ((Chg.refl (fun _ => False) wc).drew) (fun h => h)).update (P := Try.prog) map_ty2 Try.underlying3 HSW.out (.bool true) (by have := HOK1.out.lens; simp; omega)
      have HRD := hid hrd
      have H3 := hid ((H2.out.far ((Chg.refl (fun _ => False) wc).drew)).starts_set kd gd)
      have KD := hid kd
      clear hrd gd kd
      have P_8 : wc.cell? ⟨p, 8, none⟩ = some (.bool true) := by rw [← hch1]; exact (cellAt BP2.out 8).trans rfl
      have X_0 : wc.cell? ⟨b, 0, none⟩ = some (.int .i64 4) := by rw [← HKD.out]; exact (cellAt BXc.out 0).trans rfl
      have HCH1 := hid hch1
      clear hch1
      go_wp2_with fail
      clear P_8 X_0
      have hrU := HRD.out
      have U_10 : ∀ wx, Chg (fun _ => False) wc wx → wx.cell? ⟨p, 10, none⟩ = some (.map (some b2)) := fun wx hx => (cellAt (hx.blk BP2.out (fun h => h)) 10).trans rfl
      have X_2 : ∀ wx, Chg (fun _ => False) wc wx → wx.cell? ⟨b, 2, none⟩ = some (.int .i64 m.src) := fun wx hx => (cellAt (hx.blk BXc.out (fun h => h)) 2).trans rfl
      refine wpB_start (fun wx : World => Chg (fun _ => False) wc wx) (by kernel_rfl) ?_
      have hHeld : (fun wx : World => Chg (fun _ => False) wc wx) _ := (Chg.refl (fun _ => False) wc).drew
      -- 0: t41 := move t0 : 30
      refine wpB_take (i := 0) (v := ?_) (get_of_drop rfl) (by kernel_rfl) (by kernel_rfl) (by kernel_rfl) (by kernel_rfl) (fun _ _ _ h => h) (Or.inl ⟨by rfl, ?_⟩) hHeld ?_
      rotate_left
      · (intro w hSw; (try dsimp only at hSw); go_simp <;> with_reducible rfl)
      try simp only [Act.put, List.setIfInBounds_toArray, List.set_cons_zero, List.set_cons_succ]
      -- 1: t42 := nilCheck t41 : 0
      refine wpB_take (i := 1) (v := ?_) (get_of_drop rfl) (by kernel_rfl) (by kernel_rfl) (by kernel_rfl) (by kernel_rfl) (fun _ _ _ h => h) (Or.inl ⟨by rfl, ?_⟩) hHeld ?_
      rotate_left
      · (intro w hSw; (try dsimp only at hSw); go_simp <;> with_reducible rfl)
      try simp only [Act.put, List.setIfInBounds_toArray, List.set_cons_zero, List.set_cons_succ]
      -- 2: t43 := fieldAddr 100 t42 4 : 0
      refine wpB_take (i := 2) (v := ?_) (get_of_drop rfl) (by kernel_rfl) (by kernel_rfl) (by kernel_rfl) (by kernel_rfl) (fun _ _ _ h => h) (Or.inl ⟨by rfl, ?_⟩) hHeld ?_
      rotate_left
      · (intro w hSw; (try dsimp only at hSw); go_simp <;> with_reducible rfl)
      try simp only [Act.put, List.setIfInBounds_toArray, List.set_cons_zero, List.set_cons_succ]
      -- 3: t44 := load 97 t43 : 97
      refine wpB_take (i := 3) (v := ?_) (get_of_drop rfl) (by kernel_rfl) (by kernel_rfl) (by kernel_rfl) (by kernel_rfl) (fun _ _ _ h => h) (Or.inl ⟨by rfl, ?_⟩) hHeld ?_
      rotate_left
      · (intro w hSw; (try dsimp only at hSw); go_simp <;> with_reducible rfl)
      try simp only [Act.put, List.setIfInBounds_toArray, List.set_cons_zero, List.set_cons_succ]
      -- 4: t45 := fieldAddr 41 t3 2 : 0
      refine wpB_take (i := 4) (v := ?_) (get_of_drop rfl) (by kernel_rfl) (by kernel_rfl) (by kernel_rfl) (by kernel_rfl) (fun _ _ _ h => h) (Or.inl ⟨by rfl, ?_⟩) hHeld ?_
      rotate_left
      · (intro w hSw; (try dsimp only at hSw); go_simp <;> with_reducible rfl)
      try simp only [Act.put, List.setIfInBounds_toArray, List.set_cons_zero, List.set_cons_succ]
      -- 5: t46 := load 3 t45 : 3
      refine wpB_take (i := 5) (v := ?_) (get_of_drop rfl) (by kernel_rfl) (by kernel_rfl) (by kernel_rfl) (by kernel_rfl) (fun _ _ _ h => h) (Or.inl ⟨by rfl, ?_⟩) hHeld ?_
      rotate_left
      · (intro w hSw; (try dsimp only at hSw); go_simp <;> with_reducible rfl)
      try simp only [Act.put, List.setIfInBounds_toArray, List.set_cons_zero, List.set_cons_succ]
      -- 6: t- := mapUpdate 97 t44 t46 #true : 0 (BARRIER)
      refine wpB_bar (i := 6) (by kernel_rfl) (get_of_drop rfl) (by kernel_rfl) (fun K hK => ?_)
      go_simp
      refine hK.out _ _ (fun _ : World => True) ?_
      clear hHeld hK K
      have hHeld := trivial
      try simp only [Act.put, List.setIfInBounds_toArray, List.set_cons_zero, List.set_cons_succ]
      refine wpB_done (by kernel_rfl) ?_ _
      clear hrU U_10 X_2 hHeld
      have HOK3 := hid (HOK1.out.start (k := m.src) (by rw [HN1.out]; exact HS.out) true)
      go_wp2_with fail
      refine (see_any H3.out HOK3.out (by have := HOK3.out.lens; omega) (by have := HOK3.out.lens; omega) (by have := HOU.out; show r1.out.length ≤ _; omega)).mono ?_
      rintro e we ⟨A', n', c', O', rfl, he, hoe, ke⟩
      have HE := hid he
      have HOE := hid hoe
      have KE := hid ke
      clear he hoe ke
      go_wp2_with fail
      go_end0
      have e1 : turnR r m = seeR { r1 with starts := ups m.src true r1.starts } := by rw [HRR.out]; unfold turn2R; rw [if_pos ⟨HKD.out, HCH1.out⟩]
      rw [e1]
      exact turn_end KC.out HO1.out KD.out HE.out HOE.out KE.out (.inr (.inr (.inl rfl)))

/-- A call's world may be counted from later on, if nothing has been said; and a block that is new then may be kept apart. -/
theorem Rep.rebase {w0 w w1 : World} {p b1 b2 b3 b : Nat} {X : Nat → Prop} {r : Rp} {A : Option Addr} {n c : Nat} (h : Rep w0 w p b1 b2 b3 X r A n c (.slice none 0 0)) (ho : r.out = []) (hc : Chg (fun _ => False) w w1) (hb : b = w.heap.size) (hb1 : b < w1.heap.size) : Rep w1 w1 p b1 b2 b3 (fun k => X k ∨ k = b) r A n c (.slice none 0 0) := by
  obtain ⟨V, h3, h4⟩ := h.chgs
  have hs := Nat.le_trans h.sz hc.size
  have hl := h.lt
  have hlg : ∀ k, Lg X (.slice none 0 0) k ∧ k < w.heap.size → Lg (fun k => X k ∨ k = b) (.slice none 0 0) k := fun k hk => ⟨fun e => by rcases e with e | e; exact hk.1.1 e; have := hk.2; omega, hk.1.2⟩
  exact ⟨Nat.le_refl _, by omega, h.ne, ⟨fun k hk => .inl (h.sub.1 k hk), fun k hk => by rcases hk with e | e; have := h.sub.2 k e; omega; omega⟩, hc.blk h.blk (fun h => h), h.acks.chg hc (fun h => h), h.starts.chg hc (fun h => h), ⟨V, h3.chg hc (fun h => h), (h4.bound.chg hc (fun _ _ h => h)).mono hlg⟩, (h.log.bound.chg hc (fun _ _ h => h)).mono hlg, by rw [ho]; exact Vec.nil _ _ _ _ _⟩
theorem Rep.back {w0 w w1 w' : World} {p b1 b2 b3 b : Nat} {X : Nat → Prop} {r r' : Rp} {A A' : Option Addr} {n c n' c' : Nat} {O O' : Value} (h : Rep w0 w p b1 b2 b3 X r A n c O) (hs : w.heap.size ≤ w1.heap.size) (h' : Rep w1 w' p b1 b2 b3 (fun k => X k ∨ k = b) r' A' n' c' O') : Rep w0 w' p b1 b2 b3 X r' A' n' c' O' := by
  obtain ⟨V, h3, h4⟩ := h'.chgs
  have hs0 := Nat.le_trans h.sz hs
  have hlg : ∀ k, Lg (fun k => X k ∨ k = b) O' k → Lg X O' k := fun k hk => ⟨fun e => hk.1 (.inl e), hk.2⟩
  exact ⟨Nat.le_trans hs0 h'.sz, h.lt, h.ne, h.sub, h'.blk, h'.acks, h'.starts, ⟨V, h3, h4.mono hlg⟩, h'.log.mono hlg, h'.out.mono (fun k hk _ => Nat.le_trans hs0 hk) (fun k hk _ => Nat.le_trans hs0 hk)⟩
/-- What is kept apart, and is no block of its own, may be written. -/
theorem Rep.apart {w0 w W : World} {p b1 b2 b3 : Nat} {X : Nat → Prop} {r : Rp} {A : Option Addr} {n c : Nat} {O : Value} (h : Rep w0 w p b1 b2 b3 X r A n c O) (hc : Chg (fun k => X k ∧ ¬ M4 p b1 b2 b3 k) w W) : Rep w0 W p b1 b2 b3 X r A n c O := by
  obtain ⟨V, h3, h4⟩ := h.chgs
  have hlg : ∀ k, Lg X O k → ¬ (X k ∧ ¬ M4 p b1 b2 b3 k) := fun k hk e => hk.1 e.1
  have ho : ∀ k, w0.heap.size ≤ k → ¬ (X k ∧ ¬ M4 p b1 b2 b3 k) := fun k hk e => by have := h.sub.2 k e.1; omega
  exact ⟨Nat.le_trans h.sz hc.size, h.lt, h.ne, h.sub, hc.blk h.blk (fun e => e.2 (.inl rfl)), h.acks.chg hc (fun e => e.2 (.inr (.inl rfl))), h.starts.chg hc (fun e => e.2 (.inr (.inr (.inl rfl)))), ⟨V, h3.chg hc (fun e => e.2 (.inr (.inr (.inr rfl)))), h4.chg hc hlg⟩, h.log.chg hc hlg, h.out.chg hc (fun k hk => ho k (h.out.inS k hk)) (fun k hk _ _ => ho k hk)⟩
end Go.Proofs.Ytaldoajdhbndhaa.Pa


/- turn of a message that tells all. -/

namespace Go.Proofs.Ytaldoajdhbndhaa.Pa

set_option linter.unusedVariables false

set_option linter.unusedSimpArgs false

open Go.RowKit Go.Proofs.Ytaldoajdhbndhaa.C

attribute [local go_sem] max2_int min2_int max_two min_two

set_option maxHeartbeats 4000000 in
set_option maxRecDepth 100000 in
theorem turn5_any {w0 w : World} {p b1 b2 b3 : Nat} {X : Nat → Prop} {r : Rp} {A : Option Addr} {n c : Nat} (h : Rep w0 w p b1 b2 b3 X r A n c (.slice none 0 0)) {m : Msg} {R : Nat → Prop} {B : Option Addr} {k d : Nat} (hm : Ty.At entryK w R B k d m.log) (hR : ∀ j, R j → j < w.heap.size → ¬ M4 p b1 b2 b3 j) (hok : RpOk r) (hmr : msgR m = true) (hs : 0 ≤ m.src ∧ m.src < r.n) (ho : r.out = []) (hk : m.kind = 5) :
    Calls Try.prog 51 #[.pointer (some ⟨p, 0, none⟩), .agg #[.int .i64 m.kind, .int .i64 m.view, .int .i64 m.src, .int .i64 m.dst, .int .i64 m.op, .int .i64 m.commit, .int .i64 m.normal, .slice B k d]] w (RepTo w0 w p b1 b2 b3 X (.slice none 0 0) (.tuple #[]) (turnR r m)) := by
  obtain ⟨w1, hw1⟩ : ∃ q_, q_ = (w.alloc (.cells #[.int .i64 m.kind, .int .i64 m.view, .int .i64 m.src, .int .i64 m.dst, .int .i64 m.op, .int .i64 m.commit, .int .i64 m.normal, .slice B k d] 41)) := ⟨_, rfl⟩
  have C1 := hid (show Chg (fun _ => False) w w1 by rw [hw1]; exact (Chg.refl _ w).alloc _)
  have BX := hid (show w1.heap[w.heap.size]? = some (.cells #[.int .i64 m.kind, .int .i64 m.view, .int .i64 m.src, .int .i64 m.dst, .int .i64 m.op, .int .i64 m.commit, .int .i64 m.normal, .slice B k d] 41 (0, 0)) by
    rw [hw1]
    have := blk_new w (.cells #[.int .i64 m.kind, .int .i64 m.view, .int .i64 m.src, .int .i64 m.dst, .int .i64 m.op, .int .i64 m.commit, .int .i64 m.normal, .slice B k d] 41)
    simpa using this)
  have SZ := hid (show w1.heap.size = w.heap.size + 1 by rw [hw1]; simp)
  have H1 := hid (h.far C1.out)
  obtain ⟨b, hb⟩ : ∃ q_, q_ = w.heap.size := ⟨_, rfl⟩
  have HBb := hid hb
  replace BX := hid (show w1.heap[b]? = some (.cells #[.int .i64 m.kind, .int .i64 m.view, .int .i64 m.src, .int .i64 m.dst, .int .i64 m.op, .int .i64 m.commit, .int .i64 m.normal, .slice B k d] 41 (0, 0)) by rw [hb]; exact BX.out)
  have HSZ := hid (show w1.heap.size = b + 1 by rw [hb]; exact SZ.out)
  have HPB := hid (show p < b by rw [hb]; exact lt_of_blk h.blk)
  have HW0 := hid (show w0.heap.size ≤ b by rw [hb]; exact h.sz)
  have HH := hid h
  have HM := hid hm.bound
  have HR := hid hR
  have HOK := hid hok
  have HMR := hid hmr
  have HS := hid hs
  have HOU0 := hid ho
  have HO := hid (show r.out.length ≤ 700 by rw [ho]; simp)
  have HKD := hid hk
  have HSW := hid (show (Lit.int .i64 m.src).wf = true from numW_of (by have := (msgR_num hmr).2.2.2.1; omega))
  have HVW := hid (show NumW m.view from numW_of (by have := (msgR_num hmr).2.1; omega))
  have HIW := hid (show NumW r.id from numW_of (by have := hok.cfg; omega))
  obtain ⟨X1, hX1⟩ : ∃ Y : Nat → Prop, Y = fun k => X k ∨ k = b := ⟨_, rfl⟩
  have HX1 := hid hX1
  replace H1 := hid (show Rep w1 w1 p b1 b2 b3 X1 r A n c (.slice none 0 0) by rw [hX1]; exact h.rebase ho C1.out hb (lt_of_blk BX.out))
  have BP := hid H1.out.blk
  have HM4 := hid (show ¬ M4 p b1 b2 b3 b from fun e => by have h4 := h.sub.2 b (h.sub.1 b e); have := HW0.out; omega)
  have HMB := hid (show ¬ (M4 p b1 b2 b3 b ∨ (Value.slice none 0 0).ownBlock = some b) from fun e => by rcases e with e | e; exact HM4.out e; simp [Value.ownBlock] at e)
  clear h hm hR hok hmr hs ho hk hX1
  have hn7 : primR r m.view = r.id ∨ primR r m.view ≠ r.id := by omega
  have HN7 := hid hn7
  clear hn7
  go_enter Try.func51, Try.ntmps51
  go_wp2_with fail
  rw [← hw1, ← hb]
  clear hw1 hb SZ
  have U_1 : ∀ wx, Chg (fun _ => False) w1 wx → wx.cell? ⟨p, 1, none⟩ = some (.int .i64 r.id) := fun wx hx => (cellAt (hx.blk BP.out (fun h => h)) 1).trans rfl
  have U_3 : ∀ wx, Chg (fun _ => False) w1 wx → wx.cell? ⟨p, 3, none⟩ = some (.int .i64 r.s.view) := fun wx hx => (cellAt (hx.blk BP.out (fun h => h)) 3).trans rfl
  have X_0 : ∀ wx, Chg (fun _ => False) w1 wx → wx.cell? ⟨b, 0, none⟩ = some (.int .i64 m.kind) := fun wx hx => (cellAt (hx.blk BX.out (fun h => h)) 0).trans rfl
  have X_1 : ∀ wx, Chg (fun _ => False) w1 wx → wx.cell? ⟨b, 1, none⟩ = some (.int .i64 m.view) := fun wx hx => (cellAt (hx.blk BX.out (fun h => h)) 1).trans rfl
  rw [HKD.out] at X_0
  by_cases hpr : primR r m.view = r.id
  case neg =>
    have hpr2 : (primR r m.view != r.id) = true := by simp [hpr]
    have HPR := hid hpr
    clear hpr
    refine wpB_start (fun wx : World => Chg (fun _ => False) w1 wx) (by kernel_rfl) ?_
    have hHeld : (fun wx : World => Chg (fun _ => False) w1 wx) _ := (Chg.refl (fun _ => False) w1).drew
    -- 0: t4 := fieldAddr 41 t3 0 : 0
    refine wpB_take (i := 0) (v := ?_) (get_of_drop rfl) (by kernel_rfl) (by kernel_rfl) (by kernel_rfl) (by kernel_rfl) (fun _ _ _ h => h) (Or.inl ⟨by rfl, ?_⟩) hHeld ?_
    rotate_left
    · (intro w hSw; (try dsimp only at hSw); go_simp <;> with_reducible rfl)
    try simp only [Act.put, List.setIfInBounds_toArray, List.set_cons_zero, List.set_cons_succ]
    -- 1: t5 := load 3 t4 : 3
    refine wpB_take (i := 1) (v := ?_) (get_of_drop rfl) (by kernel_rfl) (by kernel_rfl) (by kernel_rfl) (by kernel_rfl) (fun _ _ _ h => h) (Or.inl ⟨by rfl, ?_⟩) hHeld ?_
    rotate_left
    · (intro w hSw; (try dsimp only at hSw); go_simp <;> with_reducible rfl)
    try simp only [Act.put, List.setIfInBounds_toArray, List.set_cons_zero, List.set_cons_succ]
    -- 2: t6 := binOp BinOp.eql 3 t5 #i64:5 3 : 4
    refine wpB_take (i := 2) (v := ?_) (get_of_drop rfl) (by kernel_rfl) (by kernel_rfl) (by kernel_rfl) (by kernel_rfl) (fun _ _ _ h => h) (Or.inl ⟨by rfl, ?_⟩) hHeld ?_
    rotate_left
    · (intro w hSw; (try dsimp only at hSw); go_simp <;> with_reducible rfl)
    try simp only [Act.put, List.setIfInBounds_toArray, List.set_cons_zero, List.set_cons_succ]
    -- 3: t7 := move t6 : 4
    refine wpB_take (i := 3) (v := ?_) (get_of_drop rfl) (by kernel_rfl) (by kernel_rfl) (by kernel_rfl) (by kernel_rfl) (fun _ _ _ h => h) (Or.inl ⟨by rfl, ?_⟩) hHeld ?_
    rotate_left
    · (intro w hSw; (try dsimp only at hSw); go_simp <;> with_reducible rfl)
    try simp only [Act.put, List.setIfInBounds_toArray, List.set_cons_zero, List.set_cons_succ]
    -- 4: t8 := move t0 : 30   [if ⟨3, true⟩]
    refine wpB_take (i := 4) (v := ?_) (get_of_drop rfl) (by kernel_rfl) (by kernel_rfl) (by kernel_rfl) (by kernel_rfl) (fun _ _ _ h => h) (Or.inl ⟨by rfl, ?_⟩) hHeld ?_
    rotate_left
    · (intro w hSw; (try dsimp only at hSw); go_simp <;> with_reducible rfl)
    try simp only [Act.put, List.setIfInBounds_toArray, List.set_cons_zero, List.set_cons_succ]
    -- 5: t9 := fieldAddr 41 t3 1 : 0   [if ⟨3, true⟩]
    refine wpB_take (i := 5) (v := ?_) (get_of_drop rfl) (by kernel_rfl) (by kernel_rfl) (by kernel_rfl) (by kernel_rfl) (fun _ _ _ h => h) (Or.inl ⟨by rfl, ?_⟩) hHeld ?_
    rotate_left
    · (intro w hSw; (try dsimp only at hSw); go_simp <;> with_reducible rfl)
    try simp only [Act.put, List.setIfInBounds_toArray, List.set_cons_zero, List.set_cons_succ]
    -- 6: t10 := load 3 t9 : 3   [if ⟨3, true⟩]
    refine wpB_take (i := 6) (v := ?_) (get_of_drop rfl) (by kernel_rfl) (by kernel_rfl) (by kernel_rfl) (by kernel_rfl) (fun _ _ _ h => h) (Or.inl ⟨by rfl, ?_⟩) hHeld ?_
    rotate_left
    · (intro w hSw; (try dsimp only at hSw); go_simp <;> with_reducible rfl)
    try simp only [Act.put, List.setIfInBounds_toArray, List.set_cons_zero, List.set_cons_succ]
    -- 8: t12 := move t0 : 30   [if ⟨3, true⟩]
    refine wpB_take (i := 8) (v := ?_) (get_of_drop rfl) (by kernel_rfl) (by kernel_rfl) (by kernel_rfl) (by kernel_rfl) (fun _ _ _ h => h) (Or.inl ⟨by rfl, ?_⟩) hHeld ?_
    rotate_left
    · (intro w hSw; (try dsimp only at hSw); go_simp <;> with_reducible rfl)
    try simp only [Act.put, List.setIfInBounds_toArray, List.set_cons_zero, List.set_cons_succ]
    -- 9: t13 := nilCheck t12 : 0   [if ⟨3, true⟩]
    refine wpB_take (i := 9) (v := ?_) (get_of_drop rfl) (by kernel_rfl) (by kernel_rfl) (by kernel_rfl) (by kernel_rfl) (fun _ _ _ h => h) (Or.inl ⟨by rfl, ?_⟩) hHeld ?_
    rotate_left
    · (intro w hSw; (try dsimp only at hSw); go_simp <;> with_reducible rfl)
    try simp only [Act.put, List.setIfInBounds_toArray, List.set_cons_zero, List.set_cons_succ]
    -- 10: t14 := fieldAddr 100 t13 0 : 0   [if ⟨3, true⟩]
    refine wpB_take (i := 10) (v := ?_) (get_of_drop rfl) (by kernel_rfl) (by kernel_rfl) (by kernel_rfl) (by kernel_rfl) (fun _ _ _ h => h) (Or.inl ⟨by rfl, ?_⟩) hHeld ?_
    rotate_left
    · (intro w hSw; (try dsimp only at hSw); go_simp <;> with_reducible rfl)
    try simp only [Act.put, List.setIfInBounds_toArray, List.set_cons_zero, List.set_cons_succ]
    -- 11: t15 := fieldAddr 23 t14 1 : 0   [if ⟨3, true⟩]
    refine wpB_take (i := 11) (v := ?_) (get_of_drop rfl) (by kernel_rfl) (by kernel_rfl) (by kernel_rfl) (by kernel_rfl) (fun _ _ _ h => h) (Or.inl ⟨by rfl, ?_⟩) hHeld ?_
    rotate_left
    · (intro w hSw; (try dsimp only at hSw); go_simp <;> with_reducible rfl)
    try simp only [Act.put, List.setIfInBounds_toArray, List.set_cons_zero, List.set_cons_succ]
    -- 12: t16 := load 3 t15 : 3   [if ⟨3, true⟩]
    refine wpB_take (i := 12) (v := ?_) (get_of_drop rfl) (by kernel_rfl) (by kernel_rfl) (by kernel_rfl) (by kernel_rfl) (fun _ _ _ h => h) (Or.inl ⟨by rfl, ?_⟩) hHeld ?_
    rotate_left
    · (intro w hSw; (try dsimp only at hSw); go_simp <;> with_reducible rfl)
    try simp only [Act.put, List.setIfInBounds_toArray, List.set_cons_zero, List.set_cons_succ]
    -- 7: t11 := CALL fn48(t8, t10) : 3   [if ⟨3, true⟩]
    refine wpB_act (i := 7) (by kernel_rfl) (get_of_drop rfl) (fun K hK => ?_)
    go_simp
    refine (prim_any (H1.out.far hHeld) HOK.out.cfg.1 (msgR_num HMR.out).2.1).mono ?_
    rintro e' wy ⟨rfl, rfl⟩
    refine hK.out _ _ ?_ (fun hHeld2 => ?_)
    · first | assumption | exact Chg.alloc hHeld _
    clear hHeld hK K
    have hHeld := hHeld2
    clear hHeld2
    try simp only [Act.put, List.setIfInBounds_toArray, List.set_cons_zero, List.set_cons_succ]
    -- 13: t17 := binOp BinOp.neq 3 t11 t16 3 : 4   [if ⟨3, true⟩]
    refine wpB_take (i := 13) (v := ?_) (get_of_drop rfl) (by kernel_rfl) (by kernel_rfl) (by kernel_rfl) (by kernel_rfl) (fun _ _ _ h => h) (Or.inl ⟨by rfl, ?_⟩) hHeld ?_
    rotate_left
    · (intro w hSw; (try dsimp only at hSw); go_simp <;> with_reducible rfl)
    try simp only [Act.put, List.setIfInBounds_toArray, List.set_cons_zero, List.set_cons_succ]
    -- 14: t18 := pick t7 t17 #false : 4
    refine wpB_take (i := 14) (v := ?_) (get_of_drop rfl) (by kernel_rfl) (by kernel_rfl) (by kernel_rfl) (by kernel_rfl) (fun _ _ _ h => h) (Or.inl ⟨by rfl, ?_⟩) hHeld ?_
    rotate_left
    · (intro w hSw; (try dsimp only at hSw); go_simp <;> with_reducible rfl)
    try simp only [Act.put, List.setIfInBounds_toArray, List.set_cons_zero, List.set_cons_succ]
    refine wpB_done (by kernel_rfl) ?_ _
    go_wp2_with fail
    go_end0
    have e1 : turnR r m = r := by unfold turnR; rw [if_pos ⟨HKD.out, HPR.out⟩]
    rw [e1]
    exact ⟨A, n, c, .slice none 0 0, rfl, HH.out.far (C1.out.drew), fun j hj => .inl hj, (C1.out.drew).mono (fun _ h _ => h.elim)⟩
  have hpr2 : (primR r m.view != r.id) = false := by simp [hpr]
  have HNP := hid (show ¬ (m.kind = 5 ∧ primR r m.view ≠ r.id) from fun h => h.2 hpr)
  clear hpr
  refine wpB_start (fun wx : World => Chg (fun _ => False) w1 wx) (by kernel_rfl) ?_
  have hHeld : (fun wx : World => Chg (fun _ => False) w1 wx) _ := (Chg.refl (fun _ => False) w1).drew
  -- 0: t4 := fieldAddr 41 t3 0 : 0
  refine wpB_take (i := 0) (v := ?_) (get_of_drop rfl) (by kernel_rfl) (by kernel_rfl) (by kernel_rfl) (by kernel_rfl) (fun _ _ _ h => h) (Or.inl ⟨by rfl, ?_⟩) hHeld ?_
  rotate_left
  · (intro w hSw; (try dsimp only at hSw); go_simp <;> with_reducible rfl)
  try simp only [Act.put, List.setIfInBounds_toArray, List.set_cons_zero, List.set_cons_succ]
  -- 1: t5 := load 3 t4 : 3
  refine wpB_take (i := 1) (v := ?_) (get_of_drop rfl) (by kernel_rfl) (by kernel_rfl) (by kernel_rfl) (by kernel_rfl) (fun _ _ _ h => h) (Or.inl ⟨by rfl, ?_⟩) hHeld ?_
  rotate_left
  · (intro w hSw; (try dsimp only at hSw); go_simp <;> with_reducible rfl)
  try simp only [Act.put, List.setIfInBounds_toArray, List.set_cons_zero, List.set_cons_succ]
  -- 2: t6 := binOp BinOp.eql 3 t5 #i64:5 3 : 4
  refine wpB_take (i := 2) (v := ?_) (get_of_drop rfl) (by kernel_rfl) (by kernel_rfl) (by kernel_rfl) (by kernel_rfl) (fun _ _ _ h => h) (Or.inl ⟨by rfl, ?_⟩) hHeld ?_
  rotate_left
  · (intro w hSw; (try dsimp only at hSw); go_simp <;> with_reducible rfl)
  try simp only [Act.put, List.setIfInBounds_toArray, List.set_cons_zero, List.set_cons_succ]
  -- 3: t7 := move t6 : 4
  refine wpB_take (i := 3) (v := ?_) (get_of_drop rfl) (by kernel_rfl) (by kernel_rfl) (by kernel_rfl) (by kernel_rfl) (fun _ _ _ h => h) (Or.inl ⟨by rfl, ?_⟩) hHeld ?_
  rotate_left
  · (intro w hSw; (try dsimp only at hSw); go_simp <;> with_reducible rfl)
  try simp only [Act.put, List.setIfInBounds_toArray, List.set_cons_zero, List.set_cons_succ]
  -- 4: t8 := move t0 : 30   [if ⟨3, true⟩]
  refine wpB_take (i := 4) (v := ?_) (get_of_drop rfl) (by kernel_rfl) (by kernel_rfl) (by kernel_rfl) (by kernel_rfl) (fun _ _ _ h => h) (Or.inl ⟨by rfl, ?_⟩) hHeld ?_
  rotate_left
  · (intro w hSw; (try dsimp only at hSw); go_simp <;> with_reducible rfl)
  try simp only [Act.put, List.setIfInBounds_toArray, List.set_cons_zero, List.set_cons_succ]
  -- 5: t9 := fieldAddr 41 t3 1 : 0   [if ⟨3, true⟩]
  refine wpB_take (i := 5) (v := ?_) (get_of_drop rfl) (by kernel_rfl) (by kernel_rfl) (by kernel_rfl) (by kernel_rfl) (fun _ _ _ h => h) (Or.inl ⟨by rfl, ?_⟩) hHeld ?_
  rotate_left
  · (intro w hSw; (try dsimp only at hSw); go_simp <;> with_reducible rfl)
  try simp only [Act.put, List.setIfInBounds_toArray, List.set_cons_zero, List.set_cons_succ]
  -- 6: t10 := load 3 t9 : 3   [if ⟨3, true⟩]
  refine wpB_take (i := 6) (v := ?_) (get_of_drop rfl) (by kernel_rfl) (by kernel_rfl) (by kernel_rfl) (by kernel_rfl) (fun _ _ _ h => h) (Or.inl ⟨by rfl, ?_⟩) hHeld ?_
  rotate_left
  · (intro w hSw; (try dsimp only at hSw); go_simp <;> with_reducible rfl)
  try simp only [Act.put, List.setIfInBounds_toArray, List.set_cons_zero, List.set_cons_succ]
  -- 8: t12 := move t0 : 30   [if ⟨3, true⟩]
  refine wpB_take (i := 8) (v := ?_) (get_of_drop rfl) (by kernel_rfl) (by kernel_rfl) (by kernel_rfl) (by kernel_rfl) (fun _ _ _ h => h) (Or.inl ⟨by rfl, ?_⟩) hHeld ?_
  rotate_left
  · (intro w hSw; (try dsimp only at hSw); go_simp <;> with_reducible rfl)
  try simp only [Act.put, List.setIfInBounds_toArray, List.set_cons_zero, List.set_cons_succ]
  -- 9: t13 := nilCheck t12 : 0   [if ⟨3, true⟩]
  refine wpB_take (i := 9) (v := ?_) (get_of_drop rfl) (by kernel_rfl) (by kernel_rfl) (by kernel_rfl) (by kernel_rfl) (fun _ _ _ h => h) (Or.inl ⟨by rfl, ?_⟩) hHeld ?_
  rotate_left
  · (intro w hSw; (try dsimp only at hSw); go_simp <;> with_reducible rfl)
  try simp only [Act.put, List.setIfInBounds_toArray, List.set_cons_zero, List.set_cons_succ]
  -- 10: t14 := fieldAddr 100 t13 0 : 0   [if ⟨3, true⟩]
  refine wpB_take (i := 10) (v := ?_) (get_of_drop rfl) (by kernel_rfl) (by kernel_rfl) (by kernel_rfl) (by kernel_rfl) (fun _ _ _ h => h) (Or.inl ⟨by rfl, ?_⟩) hHeld ?_
  rotate_left
  · (intro w hSw; (try dsimp only at hSw); go_simp <;> with_reducible rfl)
  try simp only [Act.put, List.setIfInBounds_toArray, List.set_cons_zero, List.set_cons_succ]
  -- 11: t15 := fieldAddr 23 t14 1 : 0   [if ⟨3, true⟩]
  refine wpB_take (i := 11) (v := ?_) (get_of_drop rfl) (by kernel_rfl) (by kernel_rfl) (by kernel_rfl) (by kernel_rfl) (fun _ _ _ h => h) (Or.inl ⟨by rfl, ?_⟩) hHeld ?_
  rotate_left
  · (intro w hSw; (try dsimp only at hSw); go_simp <;> with_reducible rfl)
  try simp only [Act.put, List.setIfInBounds_toArray, List.set_cons_zero, List.set_cons_succ]
  -- 12: t16 := load 3 t15 : 3   [if ⟨3, true⟩]
  refine wpB_take (i := 12) (v := ?_) (get_of_drop rfl) (by kernel_rfl) (by kernel_rfl) (by kernel_rfl) (by kernel_rfl) (fun _ _ _ h => h) (Or.inl ⟨by rfl, ?_⟩) hHeld ?_
  rotate_left
  · (intro w hSw; (try dsimp only at hSw); go_simp <;> with_reducible rfl)
  try simp only [Act.put, List.setIfInBounds_toArray, List.set_cons_zero, List.set_cons_succ]
  -- 7: t11 := CALL fn48(t8, t10) : 3   [if ⟨3, true⟩]
  refine wpB_act (i := 7) (by kernel_rfl) (get_of_drop rfl) (fun K hK => ?_)
  go_simp
  refine (prim_any (H1.out.far hHeld) HOK.out.cfg.1 (msgR_num HMR.out).2.1).mono ?_
  rintro e' wy ⟨rfl, rfl⟩
  refine hK.out _ _ ?_ (fun hHeld2 => ?_)
  · first | assumption | exact Chg.alloc hHeld _
  clear hHeld hK K
  have hHeld := hHeld2
  clear hHeld2
  try simp only [Act.put, List.setIfInBounds_toArray, List.set_cons_zero, List.set_cons_succ]
  -- 13: t17 := binOp BinOp.neq 3 t11 t16 3 : 4   [if ⟨3, true⟩]
  refine wpB_take (i := 13) (v := ?_) (get_of_drop rfl) (by kernel_rfl) (by kernel_rfl) (by kernel_rfl) (by kernel_rfl) (fun _ _ _ h => h) (Or.inl ⟨by rfl, ?_⟩) hHeld ?_
  rotate_left
  · (intro w hSw; (try dsimp only at hSw); go_simp <;> with_reducible rfl)
  try simp only [Act.put, List.setIfInBounds_toArray, List.set_cons_zero, List.set_cons_succ]
  -- 14: t18 := pick t7 t17 #false : 4
  refine wpB_take (i := 14) (v := ?_) (get_of_drop rfl) (by kernel_rfl) (by kernel_rfl) (by kernel_rfl) (by kernel_rfl) (fun _ _ _ h => h) (Or.inl ⟨by rfl, ?_⟩) hHeld ?_
  rotate_left
  · (intro w hSw; (try dsimp only at hSw); go_simp <;> with_reducible rfl)
  try simp only [Act.put, List.setIfInBounds_toArray, List.set_cons_zero, List.set_cons_succ]
  refine wpB_done (by kernel_rfl) ?_ _
  clear hpr2
  go_wp2_with fail
  obtain ⟨wa, hwa⟩ : ∃ q_, q_ = w1.drew := ⟨_, rfl⟩
  rw [← hwa]
  have CA := hid (show Chg (fun _ => False) w wa by rw [hwa]; exact C1.out.drew)
  have HA := hid (show Rep w1 wa p b1 b2 b3 X1 r A n c (.slice none 0 0) by rw [hwa]; exact H1.out.far ((Chg.refl (fun _ => False) w1).drew))
  have BXa := hid (show wa.heap[b]? = some (.cells #[.int .i64 m.kind, .int .i64 m.view, .int .i64 m.src, .int .i64 m.dst, .int .i64 m.op, .int .i64 m.commit, .int .i64 m.normal, .slice B k d] 41 (0, 0)) by rw [hwa]; exact blk_drew BX.out)
  have BPa := hid HA.out.blk
  clear hwa hHeld U_1 U_3 X_0 X_1
  have U_3 : ∀ wx, Chg (fun _ => False) wa wx → wx.cell? ⟨p, 3, none⟩ = some (.int .i64 r.s.view) := fun wx hx => (cellAt (hx.blk BPa.out (fun h => h)) 3).trans rfl
  have X_1 : ∀ wx, Chg (fun _ => False) wa wx → wx.cell? ⟨b, 1, none⟩ = some (.int .i64 m.view) := fun wx hx => (cellAt (hx.blk BXa.out (fun h => h)) 1).trans rfl
  refine wpB_start (fun wx : World => Chg (fun _ => False) wa wx) (by kernel_rfl) ?_
  have hHeld : (fun wx : World => Chg (fun _ => False) wa wx) _ := (Chg.refl (fun _ => False) wa).drew
  -- 0: t19 := fieldAddr 41 t3 1 : 0
  refine wpB_take (i := 0) (v := ?_) (get_of_drop rfl) (by kernel_rfl) (by kernel_rfl) (by kernel_rfl) (by kernel_rfl) (fun _ _ _ h => h) (Or.inl ⟨by rfl, ?_⟩) hHeld ?_
  rotate_left
  · (intro w hSw; (try dsimp only at hSw); go_simp <;> with_reducible rfl)
  try simp only [Act.put, List.setIfInBounds_toArray, List.set_cons_zero, List.set_cons_succ]
  -- 1: t20 := load 3 t19 : 3
  refine wpB_take (i := 1) (v := ?_) (get_of_drop rfl) (by kernel_rfl) (by kernel_rfl) (by kernel_rfl) (by kernel_rfl) (fun _ _ _ h => h) (Or.inl ⟨by rfl, ?_⟩) hHeld ?_
  rotate_left
  · (intro w hSw; (try dsimp only at hSw); go_simp <;> with_reducible rfl)
  try simp only [Act.put, List.setIfInBounds_toArray, List.set_cons_zero, List.set_cons_succ]
  -- 2: t21 := move t0 : 30
  refine wpB_take (i := 2) (v := ?_) (get_of_drop rfl) (by kernel_rfl) (by kernel_rfl) (by kernel_rfl) (by kernel_rfl) (fun _ _ _ h => h) (Or.inl ⟨by rfl, ?_⟩) hHeld ?_
  rotate_left
  · (intro w hSw; (try dsimp only at hSw); go_simp <;> with_reducible rfl)
  try simp only [Act.put, List.setIfInBounds_toArray, List.set_cons_zero, List.set_cons_succ]
  -- 3: t22 := nilCheck t21 : 0
  refine wpB_take (i := 3) (v := ?_) (get_of_drop rfl) (by kernel_rfl) (by kernel_rfl) (by kernel_rfl) (by kernel_rfl) (fun _ _ _ h => h) (Or.inl ⟨by rfl, ?_⟩) hHeld ?_
  rotate_left
  · (intro w hSw; (try dsimp only at hSw); go_simp <;> with_reducible rfl)
  try simp only [Act.put, List.setIfInBounds_toArray, List.set_cons_zero, List.set_cons_succ]
  -- 4: t23 := fieldAddr 100 t22 1 : 0
  refine wpB_take (i := 4) (v := ?_) (get_of_drop rfl) (by kernel_rfl) (by kernel_rfl) (by kernel_rfl) (by kernel_rfl) (fun _ _ _ h => h) (Or.inl ⟨by rfl, ?_⟩) hHeld ?_
  rotate_left
  · (intro w hSw; (try dsimp only at hSw); go_simp <;> with_reducible rfl)
  try simp only [Act.put, List.setIfInBounds_toArray, List.set_cons_zero, List.set_cons_succ]
  -- 5: t24 := fieldAddr 26 t23 0 : 0
  refine wpB_take (i := 5) (v := ?_) (get_of_drop rfl) (by kernel_rfl) (by kernel_rfl) (by kernel_rfl) (by kernel_rfl) (fun _ _ _ h => h) (Or.inl ⟨by rfl, ?_⟩) hHeld ?_
  rotate_left
  · (intro w hSw; (try dsimp only at hSw); go_simp <;> with_reducible rfl)
  try simp only [Act.put, List.setIfInBounds_toArray, List.set_cons_zero, List.set_cons_succ]
  -- 6: t25 := load 3 t24 : 3
  refine wpB_take (i := 6) (v := ?_) (get_of_drop rfl) (by kernel_rfl) (by kernel_rfl) (by kernel_rfl) (by kernel_rfl) (fun _ _ _ h => h) (Or.inl ⟨by rfl, ?_⟩) hHeld ?_
  rotate_left
  · (intro w hSw; (try dsimp only at hSw); go_simp <;> with_reducible rfl)
  try simp only [Act.put, List.setIfInBounds_toArray, List.set_cons_zero, List.set_cons_succ]
  -- 7: t26 := binOp BinOp.gtr 3 t20 t25 3 : 4
  refine wpB_take (i := 7) (v := ?_) (get_of_drop rfl) (by kernel_rfl) (by kernel_rfl) (by kernel_rfl) (by kernel_rfl) (fun _ _ _ h => h) (Or.inl ⟨by rfl, ?_⟩) hHeld ?_
  rotate_left
  · (intro w hSw; (try dsimp only at hSw); go_simp <;> with_reducible rfl)
  try simp only [Act.put, List.setIfInBounds_toArray, List.set_cons_zero, List.set_cons_succ]
  refine wpB_done (by kernel_rfl) ?_ _
  obtain ⟨wb, hwb⟩ : ∃ q_, q_ = wa.drew := ⟨_, rfl⟩
  rw [← hwb]
  have CB := hid (show Chg (fun _ => False) w wb by rw [hwb]; exact CA.out.drew)
  have HB := hid (show Rep w1 wb p b1 b2 b3 X1 r A n c (.slice none 0 0) by rw [hwb]; exact HA.out.far ((Chg.refl (fun _ => False) wa).drew))
  have BXb := hid (show wb.heap[b]? = some (.cells #[.int .i64 m.kind, .int .i64 m.view, .int .i64 m.src, .int .i64 m.dst, .int .i64 m.op, .int .i64 m.commit, .int .i64 m.normal, .slice B k d] 41 (0, 0)) by rw [hwb]; exact blk_drew BXa.out)
  clear hwb hHeld
  clear U_3 X_1
  by_cases hvl : r.s.view < m.view
  · have HVL := hid hvl
    have X_1 : wb.cell? ⟨b, 1, none⟩ = some (.int .i64 m.view) := (cellAt BXb.out 1).trans rfl
    go_wp2_with fail
    clear X_1
    refine (begin_any HB.out HOK.out.cfg.1 ⟨HVW.out, HIW.out⟩ (by have := HO.out; omega)).mono ?_
    rintro e wc ⟨O1, rfl, hc, hoc, kc⟩
    have HOC := hid hoc
    have KC := hid (show Chg (fun j => M4 p b1 b2 b3 j ∨ (Value.slice none 0 0).ownBlock = some j) w wc from (CB.out.mono (S' := fun j => M4 p b1 b2 b3 j ∨ (Value.slice none 0 0).ownBlock = some j) (fun _ h _ => h.elim)).trans kc (fun _ h _ => h))
    have BXc := hid (kc.blk BXb.out HMB.out)
    have HO1 := hid (show ∀ j, O1.ownBlock = some j → (Value.slice none 0 0).ownBlock = some j ∨ w.heap.size ≤ j from fun j hj => (hoc j hj).imp id (fun h => Nat.le_trans CB.out.size h))
    have HOK1 := hid (HOK.out.begin_ (v := m.view) ⟨HVL.out, (msgR_num HMR.out).2.1.2⟩)
    obtain ⟨lb, hlb, hlb2⟩ := beginR_eq HOK.out m.view
    obtain ⟨r1, hr1⟩ : ∃ q_, q_ = beginR r m.view := ⟨_, rfl⟩
    rw [← hr1] at hc HOK1
    have HRR := hid (show turnR r m = turn2R r1 m by unfold turnR; rw [if_neg HNP.out, if_pos HVL.out, hr1])
    have hch1 : r1.ch = true := by rw [hr1, hlb]; rfl
    have HN1 := hid (show r1.n = r.n by rw [hr1, hlb]; rfl)
    have HOU := hid (show r1.out.length ≤ 710 by rw [hr1, hlb]; have := HO.out; simp; omega)
    have H2 := hid hc
    clear hc hoc kc hr1 hlb hlb2
    have BP2 := hid H2.out.blk
    have P_8 : wc.cell? ⟨p, 8, none⟩ = some (.bool true) := by rw [← hch1]; exact (cellAt BP2.out 8).trans rfl
    have X_0 : wc.cell? ⟨b, 0, none⟩ = some (.int .i64 5) := by rw [← HKD.out]; exact (cellAt BXc.out 0).trans rfl
    have X_7 : wc.cell? ⟨b, 7, none⟩ = some (.slice B k d) := (cellAt BXc.out 7).trans rfl
    have HCH1 := hid hch1
    clear hch1
    go_wp2_with fail
    clear P_8 X_0 X_7
    have HKL := hid (show k ≤ 64 by have h1 := HM.out.1; have h2 := (msgR_log HMR.out).1; omega)
    refine (rcopied_any (HM.out.chg KC.out (fun j hj e => by rcases e with e | e; exact HR.out j hj.1 hj.2 e; simp [Value.ownBlock] at e)) (Nat.le_trans HKL.out (by decide)) (fits_right (msgR_log HMR.out).2.1)).mono ?_
    rintro e we ⟨B5, d5, rfl, hat, hce⟩
    have CE := hid hce
    have HAT := hid hat
    have BXe := hid (hce.blk BXc.out (fun h => h))
    clear hce hat
    have Y_7 : we.cell? ⟨b, 7, none⟩ = some (.slice B k d) := (cellAt BXe.out 7).trans rfl
    have Y_f7 : we.frozen? ⟨b, 7, none⟩ = false := freeAt BXe.out 7
    go_wp2_with fail
    obtain ⟨wf, hwf⟩ : ∃ q_, q_ = we.setCell ⟨b, 7, none⟩ (.slice B5 k d5) := ⟨_, rfl⟩
    rw [← hwf]
    have KF := hid (show Chg (fun j => j = b) we wf by rw [hwf]; exact (Chg.refl (fun j => j = b) we).set (fun _ => rfl) _)
    have BXf := hid (show wf.heap[b]? = some (.cells #[.int .i64 m.kind, .int .i64 m.view, .int .i64 m.src, .int .i64 m.dst, .int .i64 m.op, .int .i64 m.commit, .int .i64 m.normal, .slice B5 k d5] 41 (0, 0)) by rw [hwf]; exact blk_set BXe.out 7 _)
    have H3 := hid ((H2.out.far CE.out).apart (KF.out.mono (S' := fun j => X1 j ∧ ¬ M4 p b1 b2 b3 j) (fun j hj _ => by rw [hj]; exact ⟨by rw [HX1.out]; exact .inr rfl, HM4.out⟩)))
    have HBC := hid (lt_of_blk BXc.out)
    have HV5 := hid (show Ty.At entryK wf (Lg X1 O1) B5 k d5 m.log from (HAT.out.at.chg KF.out (fun j hj e => by have := HBC.out; rcases hj with h | h <;> omega)).mono (fun j hj => H2.out.new_lg (by rcases hj with h | h <;> exact h)))
    clear hwf Y_7 Y_f7
    obtain ⟨V, hIM, hCh⟩ := H3.out.chgs
    have HVL := hid (show V.length ≤ 7 by have h1 := congrArg List.length hCh.1; have h2 := HOK1.out.lens; simp at h1; omega)
    obtain ⟨wd, hrd, gd, kd⟩ := (hIM.chg ((Chg.refl (fun _ => False) wf).drew) (fun h => h)).update (P := Try.prog) map_ty3 Try.underlying3 HSW.out (.agg #[.int .i64 m.kind, .int .i64 m.view, .int .i64 m.src, .int .i64 m.dst, .int .i64 m.op, .int .i64 m.commit, .int .i64 m.normal, .slice B5 k d5]) (by have := HVL.out; omega)
    have HRD := hid hrd
    have H4 := hid ((H3.out.far ((Chg.refl (fun _ => False) wf).drew)).chgs_set (m := m) (hCh.chg ((Chg.refl (fun _ => False) wf).drew) (fun _ _ h => h)) kd gd (msgK.chg (msg_shut (by
      have hq := msgR_num HMR.out
      exact ⟨numW_of (by omega), numW_of (by omega), numW_of (by omega), numW_of (by omega), numW_of (by omega), numW_of (by omega), numW_of (by omega)⟩) HV5.out) ((Chg.refl (fun _ => False) wf).drew) (fun _ _ h => h)))
    have KD := hid kd
    clear hrd gd kd hIM hCh
    have BPf := hid H3.out.blk
    have hrU := HRD.out
    have U_11 : ∀ wx, Chg (fun _ => False) wf wx → wx.cell? ⟨p, 11, none⟩ = some (.map (some b3)) := fun wx hx => (cellAt (hx.blk BPf.out (fun h => h)) 11).trans rfl
    have X_0 : ∀ wx, Chg (fun _ => False) wf wx → wx.cell? ⟨b, 0, none⟩ = some (.int .i64 m.kind) := fun wx hx => (cellAt (hx.blk BXf.out (fun h => h)) 0).trans rfl
    have X_1 : ∀ wx, Chg (fun _ => False) wf wx → wx.cell? ⟨b, 1, none⟩ = some (.int .i64 m.view) := fun wx hx => (cellAt (hx.blk BXf.out (fun h => h)) 1).trans rfl
    have X_2 : ∀ wx, Chg (fun _ => False) wf wx → wx.cell? ⟨b, 2, none⟩ = some (.int .i64 m.src) := fun wx hx => (cellAt (hx.blk BXf.out (fun h => h)) 2).trans rfl
    have X_3 : ∀ wx, Chg (fun _ => False) wf wx → wx.cell? ⟨b, 3, none⟩ = some (.int .i64 m.dst) := fun wx hx => (cellAt (hx.blk BXf.out (fun h => h)) 3).trans rfl
    have X_4 : ∀ wx, Chg (fun _ => False) wf wx → wx.cell? ⟨b, 4, none⟩ = some (.int .i64 m.op) := fun wx hx => (cellAt (hx.blk BXf.out (fun h => h)) 4).trans rfl
    have X_5 : ∀ wx, Chg (fun _ => False) wf wx → wx.cell? ⟨b, 5, none⟩ = some (.int .i64 m.commit) := fun wx hx => (cellAt (hx.blk BXf.out (fun h => h)) 5).trans rfl
    have X_6 : ∀ wx, Chg (fun _ => False) wf wx → wx.cell? ⟨b, 6, none⟩ = some (.int .i64 m.normal) := fun wx hx => (cellAt (hx.blk BXf.out (fun h => h)) 6).trans rfl
    have X_7 : ∀ wx, Chg (fun _ => False) wf wx → wx.cell? ⟨b, 7, none⟩ = some (.slice B5 k d5) := fun wx hx => (cellAt (hx.blk BXf.out (fun h => h)) 7).trans rfl
    refine wpB_start (fun wx : World => Chg (fun _ => False) wf wx) (by kernel_rfl) ?_
    have hHeld : (fun wx : World => Chg (fun _ => False) wf wx) _ := (Chg.refl (fun _ => False) wf).drew
    -- 0: t63 := move t0 : 30
    refine wpB_take (i := 0) (v := ?_) (get_of_drop rfl) (by kernel_rfl) (by kernel_rfl) (by kernel_rfl) (by kernel_rfl) (fun _ _ _ h => h) (Or.inl ⟨by rfl, ?_⟩) hHeld ?_
    rotate_left
    · (intro w hSw; (try dsimp only at hSw); go_simp <;> with_reducible rfl)
    try simp only [Act.put, List.setIfInBounds_toArray, List.set_cons_zero, List.set_cons_succ]
    -- 1: t64 := nilCheck t63 : 0
    refine wpB_take (i := 1) (v := ?_) (get_of_drop rfl) (by kernel_rfl) (by kernel_rfl) (by kernel_rfl) (by kernel_rfl) (fun _ _ _ h => h) (Or.inl ⟨by rfl, ?_⟩) hHeld ?_
    rotate_left
    · (intro w hSw; (try dsimp only at hSw); go_simp <;> with_reducible rfl)
    try simp only [Act.put, List.setIfInBounds_toArray, List.set_cons_zero, List.set_cons_succ]
    -- 2: t65 := fieldAddr 100 t64 5 : 0
    refine wpB_take (i := 2) (v := ?_) (get_of_drop rfl) (by kernel_rfl) (by kernel_rfl) (by kernel_rfl) (by kernel_rfl) (fun _ _ _ h => h) (Or.inl ⟨by rfl, ?_⟩) hHeld ?_
    rotate_left
    · (intro w hSw; (try dsimp only at hSw); go_simp <;> with_reducible rfl)
    try simp only [Act.put, List.setIfInBounds_toArray, List.set_cons_zero, List.set_cons_succ]
    -- 3: t66 := load 98 t65 : 98
    refine wpB_take (i := 3) (v := ?_) (get_of_drop rfl) (by kernel_rfl) (by kernel_rfl) (by kernel_rfl) (by kernel_rfl) (fun _ _ _ h => h) (Or.inl ⟨by rfl, ?_⟩) hHeld ?_
    rotate_left
    · (intro w hSw; (try dsimp only at hSw); go_simp <;> with_reducible rfl)
    try simp only [Act.put, List.setIfInBounds_toArray, List.set_cons_zero, List.set_cons_succ]
    -- 4: t67 := fieldAddr 41 t3 2 : 0
    refine wpB_take (i := 4) (v := ?_) (get_of_drop rfl) (by kernel_rfl) (by kernel_rfl) (by kernel_rfl) (by kernel_rfl) (fun _ _ _ h => h) (Or.inl ⟨by rfl, ?_⟩) hHeld ?_
    rotate_left
    · (intro w hSw; (try dsimp only at hSw); go_simp <;> with_reducible rfl)
    try simp only [Act.put, List.setIfInBounds_toArray, List.set_cons_zero, List.set_cons_succ]
    -- 5: t68 := load 3 t67 : 3
    refine wpB_take (i := 5) (v := ?_) (get_of_drop rfl) (by kernel_rfl) (by kernel_rfl) (by kernel_rfl) (by kernel_rfl) (fun _ _ _ h => h) (Or.inl ⟨by rfl, ?_⟩) hHeld ?_
    rotate_left
    · (intro w hSw; (try dsimp only at hSw); go_simp <;> with_reducible rfl)
    try simp only [Act.put, List.setIfInBounds_toArray, List.set_cons_zero, List.set_cons_succ]
    -- 6: t69 := load 41 t3 : 41
    refine wpB_take (i := 6) (v := ?_) (get_of_drop rfl) (by kernel_rfl) (by kernel_rfl) (by kernel_rfl) (by kernel_rfl) (fun _ _ _ h => h) (Or.inl ⟨by rfl, ?_⟩) hHeld ?_
    rotate_left
    · (intro w hSw; (try dsimp only at hSw); go_simp <;> with_reducible rfl)
    try simp only [Act.put, List.setIfInBounds_toArray, List.set_cons_zero, List.set_cons_succ]
    -- 7: t- := mapUpdate 98 t66 t68 t69 : 0 (BARRIER)
    refine wpB_bar (i := 7) (by kernel_rfl) (get_of_drop rfl) (by kernel_rfl) (fun K hK => ?_)
    go_simp
    refine hK.out _ _ (fun _ : World => True) ?_
    clear hHeld hK K
    have hHeld := trivial
    try simp only [Act.put, List.setIfInBounds_toArray, List.set_cons_zero, List.set_cons_succ]
    refine wpB_done (by kernel_rfl) ?_ _
    clear hrU U_11 X_0 X_1 X_2 X_3 X_4 X_5 X_6 X_7 hHeld
    have HOK4 := hid (HOK1.out.change (k := m.src) (by rw [HN1.out]; exact HS.out) HMR.out)
    go_wp2_with fail
    refine (decide_any H4.out HOK4.out (by have := HOK4.out.lens; omega) (by have := HOU.out; show r1.out.length ≤ _; omega)).mono ?_
    rintro e wg ⟨A', n', c', O', rfl, hg, hog, kg⟩
    have HG := hid hg
    have HOG := hid hog
    have KG := hid kg
    clear hg hog kg
    go_wp2_with fail
    go_end0
    have e1 : turnR r m = decideR { r1 with chgs := ups m.src m r1.chgs } := by rw [HRR.out]; unfold turn2R; rw [if_neg (fun h => absurd (h.1.symm.trans HKD.out) (by decide)), if_pos ⟨HKD.out, HCH1.out⟩]
    rw [e1]
    have KE : Chg (fun j => M4 p b1 b2 b3 j ∨ (Value.slice none 0 0).ownBlock = some j) w wf := (KC.out.trans CE.out (fun _ h _ => h.elim)).trans KF.out (fun j hj hl => by have := HBb.out; omega)
    have HB9 := HG.out
    rw [HX1.out] at HB9
    exact turn_end KE HO1.out KD.out (HH.out.back C1.out.size HB9) HOG.out KG.out (.inr (.inr (.inr rfl)))
  · have HVL := hid hvl
    obtain ⟨wc, hwc⟩ : ∃ q_, q_ = wb := ⟨_, rfl⟩
    rw [← hwc]
    have KC := hid (show Chg (fun j => M4 p b1 b2 b3 j ∨ (Value.slice none 0 0).ownBlock = some j) w wc by rw [hwc]; exact CB.out.mono (fun _ h _ => h.elim))
    have BXc := hid (show wc.heap[b]? = some (.cells #[.int .i64 m.kind, .int .i64 m.view, .int .i64 m.src, .int .i64 m.dst, .int .i64 m.op, .int .i64 m.commit, .int .i64 m.normal, .slice B k d] 41 (0, 0)) by rw [hwc]; exact BXb.out)
    obtain ⟨O1, hO1⟩ : ∃ q_, q_ = Value.slice none 0 0 := ⟨_, rfl⟩
    have HO1 := hid (show ∀ j, O1.ownBlock = some j → (Value.slice none 0 0).ownBlock = some j ∨ w.heap.size ≤ j from fun j hj => .inl (by rw [← hO1]; exact hj))
    obtain ⟨r1, hr1⟩ : ∃ q_, q_ = r := ⟨_, rfl⟩
    have HOK1 := hid (show RpOk r1 by rw [hr1]; exact HOK.out)
    have HRR := hid (show turnR r m = turn2R r1 m by unfold turnR; rw [if_neg HNP.out, if_neg HVL.out, hr1])
    have HN1 := hid (show r1.n = r.n by rw [hr1])
    have HOU := hid (show r1.out.length ≤ 710 by rw [hr1]; have := HO.out; omega)
    have H2 := hid (show Rep w1 wc p b1 b2 b3 X1 r1 A n c O1 by rw [hwc, hr1, hO1]; exact HB.out)
    cases hch : r.ch
    · have hch1 : r1.ch = false := by rw [hr1]; exact hch
      clear hch
      clear hwc hO1 hr1
      have BP2 := hid H2.out.blk
      have P_8 : wc.cell? ⟨p, 8, none⟩ = some (.bool false) := by rw [← hch1]; exact (cellAt BP2.out 8).trans rfl
      have X_0 : wc.cell? ⟨b, 0, none⟩ = some (.int .i64 5) := by rw [← HKD.out]; exact (cellAt BXc.out 0).trans rfl
      have HCH1 := hid hch1
      clear hch1
      go_wp2_with fail
      clear P_8 X_0
      have L1 := hid H2.out.log.1
      have HST := hid HOK1.out.stn
      have HN64 := hid (show n ≤ 64 by have h1 := L1.out; have h2 := HST.out.2.2.1; omega)
      have X_2 : ∀ wx, Chg (fun _ => False) wc wx → wx.cell? ⟨b, 2, none⟩ = some (.int .i64 m.src) := fun wx hx => (cellAt (hx.blk BXc.out (fun h => h)) 2).trans rfl
      refine wpB_start (fun wx : World => Chg (fun _ => False) wc wx) (by kernel_rfl) ?_
      have hHeld : (fun wx : World => Chg (fun _ => False) wc wx) _ := (Chg.refl (fun _ => False) wc).drew
      -- 0: t76 := move t0 : 30
      refine wpB_take (i := 0) (v := ?_) (get_of_drop rfl) (by kernel_rfl) (by kernel_rfl) (by kernel_rfl) (by kernel_rfl) (fun _ _ _ h => h) (Or.inl ⟨by rfl, ?_⟩) hHeld ?_
      rotate_left
      · (intro w hSw; (try dsimp only at hSw); go_simp <;> with_reducible rfl)
      try simp only [Act.put, List.setIfInBounds_toArray, List.set_cons_zero, List.set_cons_succ]
      -- 1: t77 := fieldAddr 41 t3 2 : 0
      refine wpB_take (i := 1) (v := ?_) (get_of_drop rfl) (by kernel_rfl) (by kernel_rfl) (by kernel_rfl) (by kernel_rfl) (fun _ _ _ h => h) (Or.inl ⟨by rfl, ?_⟩) hHeld ?_
      rotate_left
      · (intro w hSw; (try dsimp only at hSw); go_simp <;> with_reducible rfl)
      try simp only [Act.put, List.setIfInBounds_toArray, List.set_cons_zero, List.set_cons_succ]
      -- 2: t78 := load 3 t77 : 3
      refine wpB_take (i := 2) (v := ?_) (get_of_drop rfl) (by kernel_rfl) (by kernel_rfl) (by kernel_rfl) (by kernel_rfl) (fun _ _ _ h => h) (Or.inl ⟨by rfl, ?_⟩) hHeld ?_
      rotate_left
      · (intro w hSw; (try dsimp only at hSw); go_simp <;> with_reducible rfl)
      try simp only [Act.put, List.setIfInBounds_toArray, List.set_cons_zero, List.set_cons_succ]
      -- 3: t79 := move t0 : 30
      refine wpB_take (i := 3) (v := ?_) (get_of_drop rfl) (by kernel_rfl) (by kernel_rfl) (by kernel_rfl) (by kernel_rfl) (fun _ _ _ h => h) (Or.inl ⟨by rfl, ?_⟩) hHeld ?_
      rotate_left
      · (intro w hSw; (try dsimp only at hSw); go_simp <;> with_reducible rfl)
      try simp only [Act.put, List.setIfInBounds_toArray, List.set_cons_zero, List.set_cons_succ]
      -- 4: t80 := CALL fn54(t79, #i64:6) : 41
      refine wpB_act (i := 4) (by kernel_rfl) (get_of_drop rfl) (fun K hK => ?_)
      go_simp
      refine (told_any (H2.out.far hHeld) HN64.out).mono ?_
      rintro e' wt ⟨rfl, ht⟩
      have HTW := hid (show Chg (fun _ => False) wc wt from hHeld.trans ht (fun _ h _ => h))
      clear ht
      refine hK.out _ _ ?_ (fun hHeld2 => ?_)
      · first | assumption | exact HTW.out
      clear hHeld hK K
      have hHeld := hHeld2
      clear hHeld2
      try simp only [Act.put, List.setIfInBounds_toArray, List.set_cons_zero, List.set_cons_succ]
      -- 5: t81 := CALL fn53(t76, t78, t80) : 0 (BARRIER)
      refine wpB_bar (i := 5) (by kernel_rfl) (get_of_drop rfl) (by kernel_rfl) (fun K hK => ?_)
      go_simp
      refine (send_any (m := ⟨6, 0, 0, 0, (n : Int), r1.s.commit, 0, r1.s.log⟩) (H2.out.far HTW.out) ((H2.out.log).chg HTW.out (fun _ _ h => h)) (by have := HN64.out; omega) (fits_right HST.out.2.2.2.2.2) ⟨show NumW 6 by decide, numW_of (by have := HN64.out; show _ ≤ (n : Int) ∧ (n : Int) ≤ _; omega), numW_of (by have := HST.out; show _ ≤ r1.s.commit ∧ r1.s.commit ≤ _; omega), show NumW 0 by decide⟩ ⟨numW_of (by have := HST.out; omega), numW_of (by have := HOK1.out.cfg; omega), HSW.out⟩ (by have := HOU.out; show r1.out.length ≤ _; omega)).mono ?_
      rintro e' wg ⟨O', rfl, hg, hog, kg⟩
      have HG := hid hg
      have HOG := hid hog
      have KG := hid kg
      clear hg hog kg
      refine hK.out _ _ (fun _ : World => True) ?_
      clear hHeld hK K
      have hHeld := trivial
      try simp only [Act.put, List.setIfInBounds_toArray, List.set_cons_zero, List.set_cons_succ]
      refine wpB_done (by kernel_rfl) ?_ _
      go_wp2_with fail
      go_end0
      have e1 : turnR r m = sendR r1 m.src ⟨6, 0, 0, 0, (n : Int), r1.s.commit, 0, r1.s.log⟩ := by
        rw [HRR.out]
        unfold turn2R
        rw [if_neg (fun h => absurd (h.1.symm.trans HKD.out) (by decide)), if_neg (fun h => by rw [HCH1.out] at h; exact absurd h.2 (by decide)), if_pos HKD.out]
        unfold toldR
        rw [L1.out]
      rw [e1]
      have HB9 := HG.out
      rw [HX1.out] at HB9
      have CT : Chg (fun j => M4 p b1 b2 b3 j ∨ (Value.slice none 0 0).ownBlock = some j) w wt := KC.out.trans HTW.out (fun _ h _ => h.elim)
      refine ⟨A, n, c, O', rfl, HH.out.back C1.out.size HB9, fun j hj => ?_, CT.trans KG.out (fun j hj hl => ?_)⟩
      · rcases HOG.out j hj with h | h
        · exact HO1.out j h
        · exact .inr (Nat.le_trans CT.size h)
      · rcases hj with h | h
        · exact .inl (.inl h)
        · rcases HO1.out j h with h | h
          · exact .inr h
          · omega
    · have hch1 : r1.ch = true := by rw [hr1]; exact hch
      clear hch
      clear hwc hO1 hr1
      have BP2 := hid H2.out.blk
      have P_8 : wc.cell? ⟨p, 8, none⟩ = some (.bool true) := by rw [← hch1]; exact (cellAt BP2.out 8).trans rfl
      have X_0 : wc.cell? ⟨b, 0, none⟩ = some (.int .i64 5) := by rw [← HKD.out]; exact (cellAt BXc.out 0).trans rfl
      have X_7 : wc.cell? ⟨b, 7, none⟩ = some (.slice B k d) := (cellAt BXc.out 7).trans rfl
      have HCH1 := hid hch1
      clear hch1
      go_wp2_with fail
      clear P_8 X_0 X_7
      have HKL := hid (show k ≤ 64 by have h1 := HM.out.1; have h2 := (msgR_log HMR.out).1; omega)
      refine (rcopied_any (HM.out.chg KC.out (fun j hj e => by rcases e with e | e; exact HR.out j hj.1 hj.2 e; simp [Value.ownBlock] at e)) (Nat.le_trans HKL.out (by decide)) (fits_right (msgR_log HMR.out).2.1)).mono ?_
      rintro e we ⟨B5, d5, rfl, hat, hce⟩
      have CE := hid hce
      have HAT := hid hat
      have BXe := hid (hce.blk BXc.out (fun h => h))
      clear hce hat
      have Y_7 : we.cell? ⟨b, 7, none⟩ = some (.slice B k d) := (cellAt BXe.out 7).trans rfl
      have Y_f7 : we.frozen? ⟨b, 7, none⟩ = false := freeAt BXe.out 7
      go_wp2_with fail
      obtain ⟨wf, hwf⟩ : ∃ q_, q_ = we.setCell ⟨b, 7, none⟩ (.slice B5 k d5) := ⟨_, rfl⟩
      rw [← hwf]
      have KF := hid (show Chg (fun j => j = b) we wf by rw [hwf]; exact (Chg.refl (fun j => j = b) we).set (fun _ => rfl) _)
      have BXf := hid (show wf.heap[b]? = some (.cells #[.int .i64 m.kind, .int .i64 m.view, .int .i64 m.src, .int .i64 m.dst, .int .i64 m.op, .int .i64 m.commit, .int .i64 m.normal, .slice B5 k d5] 41 (0, 0)) by rw [hwf]; exact blk_set BXe.out 7 _)
      have H3 := hid ((H2.out.far CE.out).apart (KF.out.mono (S' := fun j => X1 j ∧ ¬ M4 p b1 b2 b3 j) (fun j hj _ => by rw [hj]; exact ⟨by rw [HX1.out]; exact .inr rfl, HM4.out⟩)))
      have HBC := hid (lt_of_blk BXc.out)
      have HV5 := hid (show Ty.At entryK wf (Lg X1 O1) B5 k d5 m.log from (HAT.out.at.chg KF.out (fun j hj e => by have := HBC.out; rcases hj with h | h <;> omega)).mono (fun j hj => H2.out.new_lg (by rcases hj with h | h <;> exact h)))
      clear hwf Y_7 Y_f7
      obtain ⟨V, hIM, hCh⟩ := H3.out.chgs
      have HVL := hid (show V.length ≤ 7 by have h1 := congrArg List.length hCh.1; have h2 := HOK1.out.lens; simp at h1; omega)
      obtain ⟨wd, hrd, gd, kd⟩ := (hIM.chg ((Chg.refl (fun _ => False) wf).drew) (fun h => h)).update (P := Try.prog) map_ty3 Try.underlying3 HSW.out (.agg #[.int .i64 m.kind, .int .i64 m.view, .int .i64 m.src, .int .i64 m.dst, .int .i64 m.op, .int .i64 m.commit, .int .i64 m.normal, .slice B5 k d5]) (by have := HVL.out; omega)
      have HRD := hid hrd
      have H4 := hid ((H3.out.far ((Chg.refl (fun _ => False) wf).drew)).chgs_set (m := m) (hCh.chg ((Chg.refl (fun _ => False) wf).drew) (fun _ _ h => h)) kd gd (msgK.chg (msg_shut (by
        have hq := msgR_num HMR.out
        exact ⟨numW_of (by omega), numW_of (by omega), numW_of (by omega), numW_of (by omega), numW_of (by omega), numW_of (by omega), numW_of (by omega)⟩) HV5.out) ((Chg.refl (fun _ => False) wf).drew) (fun _ _ h => h)))
      have KD := hid kd
      clear hrd gd kd hIM hCh
      have BPf := hid H3.out.blk
      have hrU := HRD.out
      have U_11 : ∀ wx, Chg (fun _ => False) wf wx → wx.cell? ⟨p, 11, none⟩ = some (.map (some b3)) := fun wx hx => (cellAt (hx.blk BPf.out (fun h => h)) 11).trans rfl
      have X_0 : ∀ wx, Chg (fun _ => False) wf wx → wx.cell? ⟨b, 0, none⟩ = some (.int .i64 m.kind) := fun wx hx => (cellAt (hx.blk BXf.out (fun h => h)) 0).trans rfl
      have X_1 : ∀ wx, Chg (fun _ => False) wf wx → wx.cell? ⟨b, 1, none⟩ = some (.int .i64 m.view) := fun wx hx => (cellAt (hx.blk BXf.out (fun h => h)) 1).trans rfl
      have X_2 : ∀ wx, Chg (fun _ => False) wf wx → wx.cell? ⟨b, 2, none⟩ = some (.int .i64 m.src) := fun wx hx => (cellAt (hx.blk BXf.out (fun h => h)) 2).trans rfl
      have X_3 : ∀ wx, Chg (fun _ => False) wf wx → wx.cell? ⟨b, 3, none⟩ = some (.int .i64 m.dst) := fun wx hx => (cellAt (hx.blk BXf.out (fun h => h)) 3).trans rfl
      have X_4 : ∀ wx, Chg (fun _ => False) wf wx → wx.cell? ⟨b, 4, none⟩ = some (.int .i64 m.op) := fun wx hx => (cellAt (hx.blk BXf.out (fun h => h)) 4).trans rfl
      have X_5 : ∀ wx, Chg (fun _ => False) wf wx → wx.cell? ⟨b, 5, none⟩ = some (.int .i64 m.commit) := fun wx hx => (cellAt (hx.blk BXf.out (fun h => h)) 5).trans rfl
      have X_6 : ∀ wx, Chg (fun _ => False) wf wx → wx.cell? ⟨b, 6, none⟩ = some (.int .i64 m.normal) := fun wx hx => (cellAt (hx.blk BXf.out (fun h => h)) 6).trans rfl
      have X_7 : ∀ wx, Chg (fun _ => False) wf wx → wx.cell? ⟨b, 7, none⟩ = some (.slice B5 k d5) := fun wx hx => (cellAt (hx.blk BXf.out (fun h => h)) 7).trans rfl
      refine wpB_start (fun wx : World => Chg (fun _ => False) wf wx) (by kernel_rfl) ?_
      have hHeld : (fun wx : World => Chg (fun _ => False) wf wx) _ := (Chg.refl (fun _ => False) wf).drew
      -- 0: t63 := move t0 : 30
      refine wpB_take (i := 0) (v := ?_) (get_of_drop rfl) (by kernel_rfl) (by kernel_rfl) (by kernel_rfl) (by kernel_rfl) (fun _ _ _ h => h) (Or.inl ⟨by rfl, ?_⟩) hHeld ?_
      rotate_left
      · (intro w hSw; (try dsimp only at hSw); go_simp <;> with_reducible rfl)
      try simp only [Act.put, List.setIfInBounds_toArray, List.set_cons_zero, List.set_cons_succ]
      -- 1: t64 := nilCheck t63 : 0
      refine wpB_take (i := 1) (v := ?_) (get_of_drop rfl) (by kernel_rfl) (by kernel_rfl) (by kernel_rfl) (by kernel_rfl) (fun _ _ _ h => h) (Or.inl ⟨by rfl, ?_⟩) hHeld ?_
      rotate_left
      · (intro w hSw; (try dsimp only at hSw); go_simp <;> with_reducible rfl)
      try simp only [Act.put, List.setIfInBounds_toArray, List.set_cons_zero, List.set_cons_succ]
      -- 2: t65 := fieldAddr 100 t64 5 : 0
      refine wpB_take (i := 2) (v := ?_) (get_of_drop rfl) (by kernel_rfl) (by kernel_rfl) (by kernel_rfl) (by kernel_rfl) (fun _ _ _ h => h) (Or.inl ⟨by rfl, ?_⟩) hHeld ?_
      rotate_left
      · (intro w hSw; (try dsimp only at hSw); go_simp <;> with_reducible rfl)
      try simp only [Act.put, List.setIfInBounds_toArray, List.set_cons_zero, List.set_cons_succ]
      -- 3: t66 := load 98 t65 : 98
      refine wpB_take (i := 3) (v := ?_) (get_of_drop rfl) (by kernel_rfl) (by kernel_rfl) (by kernel_rfl) (by kernel_rfl) (fun _ _ _ h => h) (Or.inl ⟨by rfl, ?_⟩) hHeld ?_
      rotate_left
      · (intro w hSw; (try dsimp only at hSw); go_simp <;> with_reducible rfl)
      try simp only [Act.put, List.setIfInBounds_toArray, List.set_cons_zero, List.set_cons_succ]
      -- 4: t67 := fieldAddr 41 t3 2 : 0
      refine wpB_take (i := 4) (v := ?_) (get_of_drop rfl) (by kernel_rfl) (by kernel_rfl) (by kernel_rfl) (by kernel_rfl) (fun _ _ _ h => h) (Or.inl ⟨by rfl, ?_⟩) hHeld ?_
      rotate_left
      · (intro w hSw; (try dsimp only at hSw); go_simp <;> with_reducible rfl)
      try simp only [Act.put, List.setIfInBounds_toArray, List.set_cons_zero, List.set_cons_succ]
      -- 5: t68 := load 3 t67 : 3
      refine wpB_take (i := 5) (v := ?_) (get_of_drop rfl) (by kernel_rfl) (by kernel_rfl) (by kernel_rfl) (by kernel_rfl) (fun _ _ _ h => h) (Or.inl ⟨by rfl, ?_⟩) hHeld ?_
      rotate_left
      · (intro w hSw; (try dsimp only at hSw); go_simp <;> with_reducible rfl)
      try simp only [Act.put, List.setIfInBounds_toArray, List.set_cons_zero, List.set_cons_succ]
      -- 6: t69 := load 41 t3 : 41
      refine wpB_take (i := 6) (v := ?_) (get_of_drop rfl) (by kernel_rfl) (by kernel_rfl) (by kernel_rfl) (by kernel_rfl) (fun _ _ _ h => h) (Or.inl ⟨by rfl, ?_⟩) hHeld ?_
      rotate_left
      · (intro w hSw; (try dsimp only at hSw); go_simp <;> with_reducible rfl)
      try simp only [Act.put, List.setIfInBounds_toArray, List.set_cons_zero, List.set_cons_succ]
      -- 7: t- := mapUpdate 98 t66 t68 t69 : 0 (BARRIER)
      refine wpB_bar (i := 7) (by kernel_rfl) (get_of_drop rfl) (by kernel_rfl) (fun K hK => ?_)
      go_simp
      refine hK.out _ _ (fun _ : World => True) ?_
      clear hHeld hK K
      have hHeld := trivial
      try simp only [Act.put, List.setIfInBounds_toArray, List.set_cons_zero, List.set_cons_succ]
      refine wpB_done (by kernel_rfl) ?_ _
      clear hrU U_11 X_0 X_1 X_2 X_3 X_4 X_5 X_6 X_7 hHeld
      have HOK4 := hid (HOK1.out.change (k := m.src) (by rw [HN1.out]; exact HS.out) HMR.out)
      go_wp2_with fail
      refine (decide_any H4.out HOK4.out (by have := HOK4.out.lens; omega) (by have := HOU.out; show r1.out.length ≤ _; omega)).mono ?_
      rintro e wg ⟨A', n', c', O', rfl, hg, hog, kg⟩
      have HG := hid hg
      have HOG := hid hog
      have KG := hid kg
      clear hg hog kg
      go_wp2_with fail
      go_end0
      have e1 : turnR r m = decideR { r1 with chgs := ups m.src m r1.chgs } := by rw [HRR.out]; unfold turn2R; rw [if_neg (fun h => absurd (h.1.symm.trans HKD.out) (by decide)), if_pos ⟨HKD.out, HCH1.out⟩]
      rw [e1]
      have KE : Chg (fun j => M4 p b1 b2 b3 j ∨ (Value.slice none 0 0).ownBlock = some j) w wf := (KC.out.trans CE.out (fun _ h _ => h.elim)).trans KF.out (fun j hj hl => by have := HBb.out; omega)
      have HB9 := HG.out
      rw [HX1.out] at HB9
      exact turn_end KE HO1.out KD.out (HH.out.back C1.out.size HB9) HOG.out KG.out (.inr (.inr (.inr rfl)))
end Go.Proofs.Ytaldoajdhbndhaa.Pa
