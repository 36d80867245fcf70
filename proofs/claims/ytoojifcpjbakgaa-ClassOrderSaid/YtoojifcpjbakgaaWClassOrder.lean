/- The walk of the law ClassOrder. (Printed by wip/tools/classorder.py.) -/
import Derived.Test.YtoojifcpjbakgaaWClassNots
namespace Go.Proofs.Ytoojifcpjbakgaa.Cl
set_option linter.unusedVariables false
set_option linter.unusedSimpArgs false
open Go.RowKit Go.Proofs.Ytoojifcpjbakgaa.C Go.Shelf
attribute [local go_sem] max2_int min2_int max_two min_two

theorem at_drop {w : World} {S : Nat → Prop} {A : Option Addr} {n c : Nat} {xs : List Rg} (h : Ty.At rgK w S A n c xs) (k : Nat) (hk : k ≤ n) :
    ∃ A' c', (∀ W, (Instr.slice 22 (.slice A n c) (some (.int .i64 (k : Int))) none none).run Try.prog W = .ok (.slice A' (n - k) c') W) ∧ Ty.At rgK w S A' (n - k) c' (xs.drop k) := by
  obtain ⟨h1, h2, h3, h4, cells, h5, h6⟩ := h
  obtain ⟨i, hi, _, hz, _⟩ := info_parts info46
  refine ⟨_, _, fun W => cut_from (P := Try.prog) 22 46 .i64 Try.underlying22 hi 2 hz A n c k hk W, ?_⟩
  have hl : cells.length = xs.length * 2 := h6.1
  refine ⟨by rw [List.length_drop, h1], by omega, by omega, fun e => ?_, cells.drop (k * 2), h5.cut (by rw [hl, ← h1]; exact Nat.mul_le_mul_right _ h2) (by omega), h6.drop k⟩
  split at e
  · omega
  · have := h4 (by simpa using e)
    omega
theorem at_take {w : World} {S : Nat → Prop} {A : Option Addr} {n c : Nat} {xs : List Rg} (h : Ty.At rgK w S A n c xs) (k : Nat) (hk : k ≤ n) :
    (∀ W, (Instr.slice 22 (.slice A n c) none (some (.int .i64 (k : Int))) none).run Try.prog W = .ok (.slice A k c) W) ∧ Ty.At rgK w S A k c (xs.take k) := by
  obtain ⟨h1, h2, h3, h4, cells, h5, h6⟩ := h
  obtain ⟨i, hi, _, hz, _⟩ := info_parts info46
  exact ⟨fun W => cut_to (P := Try.prog) 22 46 .i64 Try.underlying22 hi A n c k (by omega) W, by rw [List.length_take, ← h1]; omega, by omega, h3, h4, cells.take (k * 2), h5.take _, h6.take k⟩

set_option maxHeartbeats 4000000 in
set_option maxRecDepth 100000 in
theorem order_out1 (w : World) (A : Option Addr) (n c : Nat) (L : List Rg) (ha : Ty.At rgK w (fun k => k < w.heap.size) A n c L) (turn : Int) (h1 : 30 < n) :
    Calls Try.prog 3 #[.slice A n c, .int .i64 turn] w fun e w' => e = .returned (.bool true) ∧ Below w.heap.size w w' := by
  have i1 : (30 : Int) < (n : Int) := by omega
  clear ha
  go_enter Try.func3, Try.ntmps3
  go_wp2_with fail
  refine (anchor_any _).mono ?_
  rintro e w2 ⟨rfl, h2⟩
  have H2 := hid h2
  clear h2
  go_wp2_with fail
  go_ret
  exact ⟨rfl, H2.out.below (Nat.le_refl _) (fun _ h => h.elim)⟩

set_option maxHeartbeats 4000000 in
set_option maxRecDepth 100000 in
theorem order_out2 (w : World) (A : Option Addr) (n c : Nat) (L : List Rg) (ha : Ty.At rgK w (fun k => k < w.heap.size) A n c L) (turn : Int) (h1 : n ≤ 30) (h2 : turn < 0) :
    Calls Try.prog 3 #[.slice A n c, .int .i64 turn] w fun e w' => e = .returned (.bool true) ∧ Below w.heap.size w w' := by
  have i1 : (n : Int) ≤ 30 := by omega
  clear ha
  go_enter Try.func3, Try.ntmps3
  go_wp2_with fail
  refine (anchor_any _).mono ?_
  rintro e w2 ⟨rfl, h2⟩
  have H2 := hid h2
  clear h2
  go_wp2_with fail
  go_ret
  exact ⟨rfl, H2.out.below (Nat.le_refl _) (fun _ h => h.elim)⟩

set_option maxHeartbeats 4000000 in
set_option maxRecDepth 100000 in
theorem order_none_yes (w : World) (A : Option Addr) (n c : Nat) (L : List Rg) (ha : Ty.At rgK w (fun k => k < w.heap.size) A n c L) (turn : Int) (h1 : n ≤ 30) (h2 : 0 ≤ turn) (h3 : n = 0) (hr : ∀ x ∈ L, x.right = true) :
    Calls Try.prog 3 #[.slice A n c, .int .i64 turn] w fun e w' => e = .returned (.bool true) ∧ Below w.heap.size w w' := by
  have HA := hid ha
  have HR := hid hr
  have HL := hid ha.1
  have i1 : (n : Int) ≤ 30 := by omega
  obtain ⟨kk, hkk⟩ : ∃ kk : Nat, kk = 0 := ⟨0, rfl⟩
  have hkn : kk ≤ n := by omega
  have i3 : ¬ (0 : Int) < (n : Int) := by omega
  clear ha hr h3
  go_enter Try.func3, Try.ntmps3
  go_wp2_with fail
  refine (anchor_any _).mono ?_
  rintro e w2 ⟨rfl, h2'⟩
  have H2 := hid h2'
  clear h2'
  go_wp2_with fail
  refine (make_ok (HA.out.chg H2.out (fun _ _ h => h)) (by omega) HR.out).mono ?_
  rintro e w3 ⟨v, qa, rfl, ⟨hn, hh, hl⟩, hv, hc⟩
  obtain ⟨Aa, ca, ma, rfl, hm, hat⟩ := own_form_len hv
  have Na := hid hn
  have Pa := hid hh
  have ba : ma ≤ 30 := by omega
  have Sa := hid hat
  clear hn hh hl hm hv hat
  have H3 := hid (H2.out.trans hc (fun _ h _ => h))
  clear hc
  go_wp2_with fail
  have AL := hid (HA.out.chg H3.out (fun _ _ h => h))
  obtain ⟨Ad, cd, hcut, hAd⟩ := at_drop AL.out kk hkn
  obtain ⟨hcut2, hAt⟩ := at_take AL.out kk hkn
  have hk0 : (kk : Int) = 0 := by omega
  rw [hk0] at hcut hcut2
  clear hkk hk0
  obtain ⟨r, hrn⟩ : ∃ r, r = n - kk := ⟨_, rfl⟩
  rw [← hrn] at hcut hAd
  have hrb : r ≤ 30 := by omega
  have hkb2 : kk ≤ 30 := by omega
  have AD := hid hAd
  have AT := hid hAt
  have EL := hid (show r + n + kk = 2 * n from by omega)
  clear hrn hAd hAt
  refine wpB_start (fun _ : World => True) (by kernel_rfl) ?_
  have hHeld := trivial
  -- 1: t35 := move t0 : 22
  refine wpB_take (i := 1) (v := ?_) (get_of_drop rfl) (by kernel_rfl) (by kernel_rfl) (by kernel_rfl) (by kernel_rfl) (fun _ _ _ h => h) (Or.inl ⟨by rfl, ?_⟩) hHeld ?_
  rotate_left
  · (intro w hSw; (try dsimp only at hSw); go_simp <;> with_reducible rfl)
  try simp only [Act.put, List.setIfInBounds_toArray, List.set_cons_zero, List.set_cons_succ]
  -- 2: t36 := move t7 : 3
  refine wpB_take (i := 2) (v := ?_) (get_of_drop rfl) (by kernel_rfl) (by kernel_rfl) (by kernel_rfl) (by kernel_rfl) (fun _ _ _ h => h) (Or.inl ⟨by rfl, ?_⟩) hHeld ?_
  rotate_left
  · (intro w hSw; (try dsimp only at hSw); go_simp <;> with_reducible rfl)
  try simp only [Act.put, List.setIfInBounds_toArray, List.set_cons_zero, List.set_cons_succ]
  -- 3: t37 := slice 22 t35 some t36 none none : 22
  refine wpB_take (i := 3) (v := ?_) (get_of_drop rfl) (by kernel_rfl) (by kernel_rfl) (by kernel_rfl) (by kernel_rfl) (fun _ _ _ h => h) (Or.inl ⟨by rfl, ?_⟩) hHeld ?_
  rotate_left
  · (intro w hSw; (try dsimp only at hSw); go_simp <;> with_reducible rfl)
  try simp only [Act.put, List.setIfInBounds_toArray, List.set_cons_zero, List.set_cons_succ]
  -- 5: t39 := move t0 : 22
  refine wpB_take (i := 5) (v := ?_) (get_of_drop rfl) (by kernel_rfl) (by kernel_rfl) (by kernel_rfl) (by kernel_rfl) (fun _ _ _ h => h) (Or.inl ⟨by rfl, ?_⟩) hHeld ?_
  rotate_left
  · (intro w hSw; (try dsimp only at hSw); go_simp <;> with_reducible rfl)
  try simp only [Act.put, List.setIfInBounds_toArray, List.set_cons_zero, List.set_cons_succ]
  -- 7: t41 := move t0 : 22
  refine wpB_take (i := 7) (v := ?_) (get_of_drop rfl) (by kernel_rfl) (by kernel_rfl) (by kernel_rfl) (by kernel_rfl) (fun _ _ _ h => h) (Or.inl ⟨by rfl, ?_⟩) hHeld ?_
  rotate_left
  · (intro w hSw; (try dsimp only at hSw); go_simp <;> with_reducible rfl)
  try simp only [Act.put, List.setIfInBounds_toArray, List.set_cons_zero, List.set_cons_succ]
  -- 8: t42 := move t7 : 3
  refine wpB_take (i := 8) (v := ?_) (get_of_drop rfl) (by kernel_rfl) (by kernel_rfl) (by kernel_rfl) (by kernel_rfl) (fun _ _ _ h => h) (Or.inl ⟨by rfl, ?_⟩) hHeld ?_
  rotate_left
  · (intro w hSw; (try dsimp only at hSw); go_simp <;> with_reducible rfl)
  try simp only [Act.put, List.setIfInBounds_toArray, List.set_cons_zero, List.set_cons_succ]
  -- 9: t43 := slice 22 t41 none some t42 none : 22
  refine wpB_take (i := 9) (v := ?_) (get_of_drop rfl) (by kernel_rfl) (by kernel_rfl) (by kernel_rfl) (by kernel_rfl) (fun _ _ _ h => h) (Or.inl ⟨by rfl, ?_⟩) hHeld ?_
  rotate_left
  · (intro w hSw; (try dsimp only at hSw); go_simp <;> with_reducible rfl)
  try simp only [Act.put, List.setIfInBounds_toArray, List.set_cons_zero, List.set_cons_succ]
  -- 0: t34 := buildSlice 22 0 [] : 22
  refine wpB_act (i := 0) (by kernel_rfl) (get_of_drop rfl) (fun K hK => ?_)
  go_simp
  refine hK.out _ _ ?_ (fun hHeld2 => ?_)
  · trivial
  clear hHeld hK K
  have hHeld := hHeld2
  clear hHeld2
  try simp only [Act.put, List.setIfInBounds_toArray, List.set_cons_zero, List.set_cons_succ]
  -- 4: t38 := append(t34, t37) types [22, 22] : 22
  refine wpB_act (i := 4) (by kernel_rfl) (get_of_drop rfl) (fun K hK => ?_)
  have C1 := hid (((Chg.refl (fun _ => False) w3).alloc (.cells #[] 46)).drew)
  have VN := hid (show Vec rgK 46 (w3.alloc (.cells #[] 46)).drew (fun k => w3.heap.size ≤ k) (fun _ => False) (.slice (some ⟨w3.heap.size, 0, none⟩) 0 0) [] from ⟨[], World.ownsRow_lit (base := 0) (e := 46) (size := 2) w3 #[] 0 (Nat.zero_le _) (by simp [maxLen]) rfl, fun k hk => by simp [Value.ownBlock] at hk; show w3.heap.size ≤ k; omega, Ty.Row.nil _ _ _⟩)
  obtain ⟨d1, d2, d3, d4, d5⟩ := at_open (AD.out.chg C1.out (fun _ _ h => h))
  refine vec_step (d := rgK) _ rfl (.tmp 34) (.tmp 37) 22 46 (.agg #[.int .i64 0, .int .i64 0]) 16 rfl Try.underlying22 info46 rfl (by decide) (by decide) (.slice (some ⟨w3.heap.size, 0, none⟩) 0 0) rfl VN.out Ad r cd (ys := L.drop kk) rfl d3 d2 d1 d4 (rgc_row d5) (by simp; omega) ?_
  simp only [List.length_nil, Nat.zero_add, List.nil_append]
  intro A5 c5 w5 h5 h6
  have C5 := hid (C1.out.trans h6 (fun k hk hlt => by simp [Value.ownBlock] at hk; omega))
  have V5 := hid h5
  have L5 := hid d1
  clear h5 h6 d1 d2 d3 d4 d5
  refine hK.out _ _ ?_ (fun hHeld2 => ?_)
  · trivial
  clear hHeld hK K
  have hHeld := hHeld2
  clear hHeld2
  try simp only [Act.put, List.setIfInBounds_toArray, List.set_cons_zero, List.set_cons_succ]
  -- 6: t40 := append(t38, t39) types [22, 22] : 22
  refine wpB_act (i := 6) (by kernel_rfl) (get_of_drop rfl) (fun K hK => ?_)
  obtain ⟨d1, d2, d3, d4, d5⟩ := at_open (AL.out.chg C5.out (fun _ _ h => h))
  refine vec_step (d := rgK) _ rfl (.tmp 38) (.tmp 39) 22 46 (.agg #[.int .i64 0, .int .i64 0]) 16 rfl Try.underlying22 info46 rfl (by decide) (by decide) (.slice A5 r c5) rfl V5.out A n c (ys := L) rfl d3 d2 d1 d4 (rgc_row d5) (by rw [← L5.out]; omega) ?_
  rw [← L5.out]
  intro A6 c6 w6 h5 h6
  have C6 := hid (show Chg (fun _ => False) w3 w6 from C5.out.trans h6 (fun k hk hlt => by have q1 := V5.out.inS k hk; have q2 := C1.out.size; omega))
  have V6 := hid (h5.mono (S' := fun k => w3.heap.size ≤ k) (D' := fun _ => False) (fun k hk _ => by have q2 := C1.out.size; have q3 := C5.out.size; omega) (fun _ h _ => h))
  have L6 := hid (show r + n = (L.drop kk ++ L).length by rw [List.length_append, ← L5.out, ← d1])
  clear h5 h6 d1 d2 d3 d4 d5
  refine hK.out _ _ ?_ (fun hHeld2 => ?_)
  · trivial
  clear hHeld hK K
  have hHeld := hHeld2
  clear hHeld2
  try simp only [Act.put, List.setIfInBounds_toArray, List.set_cons_zero, List.set_cons_succ]
  -- 10: t44 := append(t40, t43) types [22, 22] : 22
  refine wpB_act (i := 10) (by kernel_rfl) (get_of_drop rfl) (fun K hK => ?_)
  obtain ⟨d1, d2, d3, d4, d5⟩ := at_open (AT.out.chg C6.out (fun _ _ h => h))
  refine vec_step (d := rgK) _ rfl (.tmp 40) (.tmp 43) 22 46 (.agg #[.int .i64 0, .int .i64 0]) 16 rfl Try.underlying22 info46 rfl (by decide) (by decide) (.slice A6 (r + n) c6) rfl V6.out A kk c (ys := L.take kk) rfl d3 d2 d1 d4 (rgc_row d5) (by rw [← L6.out]; omega) ?_
  rw [← L6.out, EL.out]
  intro A7 c7 w7 h5 h6
  have C7 := hid (show Chg (fun _ => False) w3 w7 from C6.out.trans h6 (fun k hk hlt => by have q1 := V6.out.inS k hk; omega))
  have V7 := hid (h5.at)
  clear h5 h6 d1 d2 d3 d4 d5
  refine hK.out _ _ ?_ (fun hHeld2 => ?_)
  · trivial
  clear hHeld hK K
  have hHeld := hHeld2
  clear hHeld2
  try simp only [Act.put, List.setIfInBounds_toArray, List.set_cons_zero, List.set_cons_succ]
  -- 11: t45 := CALL fn11(t44) : 26
  refine wpB_act (i := 11) (by kernel_rfl) (get_of_drop rfl) (fun K hK => ?_)
  go_simp
  refine (make_ok V7.out (by omega) (fun x hx => by
    rcases List.mem_append.1 hx with hx | hx
    · rcases List.mem_append.1 hx with hx | hx
      · exact HR.out x (List.mem_of_mem_drop hx)
      · exact HR.out x hx
    · exact HR.out x (List.mem_of_mem_take hx))).mono ?_
  rintro e w8 ⟨v, qb, rfl, ⟨hn, hh, hl⟩, hv, hc⟩
  obtain ⟨Ab, cb, mb, rfl, hm, hat⟩ := own_form_len hv
  have Eab := hid (show qa = qb from ext Na.out hn (fun u => by
    rw [Pa.out, hh, has_append, has_append]
    have q1 : has (L.drop kk) u = true → has L u = true := fun q => by
      unfold has at q ⊢
      obtain ⟨x, hx, hp⟩ := List.any_eq_true.1 q
      exact List.any_eq_true.2 ⟨x, List.mem_of_mem_drop hx, hp⟩
    have q2 : has (L.take kk) u = true → has L u = true := fun q => by
      unfold has at q ⊢
      obtain ⟨x, hx, hp⟩ := List.any_eq_true.1 q
      exact List.any_eq_true.2 ⟨x, List.mem_of_mem_take hx, hp⟩
    cases e1 : has L u
    · cases e2 : has (L.drop kk) u
      · cases e3 : has (L.take kk) u
        · rfl
        · rw [q2 e3] at e1; cases e1
      · rw [q1 e2] at e1; cases e1
    · simp))
  have bb : mb ≤ 60 := by omega
  have Sb := hid hat
  have C8 := hid (C7.out.trans hc (fun _ h _ => h))
  clear hn hh hl hm hv hat hc
  refine hK.out _ _ ?_ (fun hHeld2 => ?_)
  · trivial
  clear hHeld hK K
  have hHeld := hHeld2
  clear hHeld2
  try simp only [Act.put, List.setIfInBounds_toArray, List.set_cons_zero, List.set_cons_succ]
  -- 12: t33 := move t45 : 26
  refine wpB_take (i := 12) (v := ?_) (get_of_drop rfl) (by kernel_rfl) (by kernel_rfl) (by kernel_rfl) (by kernel_rfl) (fun _ _ _ h => h) (Or.inl ⟨by rfl, ?_⟩) hHeld ?_
  rotate_left
  · (intro w hSw; (try dsimp only at hSw); go_simp <;> with_reducible rfl)
  try simp only [Act.put, List.setIfInBounds_toArray, List.set_cons_zero, List.set_cons_succ]
  -- 13: t46 := extract t33 0 : 24
  refine wpB_take (i := 13) (v := ?_) (get_of_drop rfl) (by kernel_rfl) (by kernel_rfl) (by kernel_rfl) (by kernel_rfl) (fun _ _ _ h => h) (Or.inl ⟨by rfl, ?_⟩) hHeld ?_
  rotate_left
  · (intro w hSw; (try dsimp only at hSw); go_simp <;> with_reducible rfl)
  try simp only [Act.put, List.setIfInBounds_toArray, List.set_cons_zero, List.set_cons_succ]
  -- 14: t47 := extract t33 1 : 25
  refine wpB_take (i := 14) (v := ?_) (get_of_drop rfl) (by kernel_rfl) (by kernel_rfl) (by kernel_rfl) (by kernel_rfl) (fun _ _ _ h => h) (Or.inl ⟨by rfl, ?_⟩) hHeld ?_
  rotate_left
  · (intro w hSw; (try dsimp only at hSw); go_simp <;> with_reducible rfl)
  try simp only [Act.put, List.setIfInBounds_toArray, List.set_cons_zero, List.set_cons_succ]
  -- 15: t8 := assign t46 : 24
  refine wpB_take (i := 15) (v := ?_) (get_of_drop rfl) (by kernel_rfl) (by kernel_rfl) (by kernel_rfl) (by kernel_rfl) (fun _ _ _ h => h) (Or.inl ⟨by rfl, ?_⟩) hHeld ?_
  rotate_left
  · (intro w hSw; (try dsimp only at hSw); go_simp <;> with_reducible rfl)
  try simp only [Act.put, List.setIfInBounds_toArray, List.set_cons_zero, List.set_cons_succ]
  -- 16: t9 := assign t47 : 25
  refine wpB_take (i := 16) (v := ?_) (get_of_drop rfl) (by kernel_rfl) (by kernel_rfl) (by kernel_rfl) (by kernel_rfl) (fun _ _ _ h => h) (Or.inl ⟨by rfl, ?_⟩) hHeld ?_
  rotate_left
  · (intro w hSw; (try dsimp only at hSw); go_simp <;> with_reducible rfl)
  try simp only [Act.put, List.setIfInBounds_toArray, List.set_cons_zero, List.set_cons_succ]
  refine wpB_done (by kernel_rfl) ?_ _
  clear hHeld hcut hcut2
  go_wp2_with fail
  refine (make_ok (Sa.out.chg C8.out (fun _ _ h => h)) (by omega) (nrm_right Na.out)).mono ?_
  rintro e w9 ⟨v, qc, rfl, ⟨hn, hh, hl⟩, hv, hc⟩
  obtain ⟨Ac, cc, mc, rfl, hm, hat⟩ := own_form_len hv
  have Eac := hid (show qa = qc from ext Na.out hn (fun u => (hh u).symm))
  have bc : mc ≤ 60 := by omega
  have Sc := hid hat
  have C9 := hid (C8.out.trans hc (fun _ h _ => h))
  have Sb9 := hid (Sb.out.chg hc (fun _ _ h => h))
  clear hn hh hl hm hv hat hc
  go_wp2_with fail
  refine (same_any (Sa.out.chg C9.out (fun _ _ h => h)) Sb9.out (by omega) (by omega)).mono ?_
  rintro e w10 ⟨rfl, h10⟩
  rw [decide_eq_true Eab.out]
  have C10 := hid (C9.out.trans h10 (fun _ h _ => h))
  have Sc10 := hid (Sc.out.chg h10 (fun _ _ h => h))
  clear h10
  go_wp2_with fail
  refine (same_any (Sa.out.chg C10.out (fun _ _ h => h)) Sc10.out (by omega) (by omega)).mono ?_
  rintro e w11 ⟨rfl, h11⟩
  rw [decide_eq_true Eac.out]
  have C11 := hid (H3.out.trans (C10.out.trans h11 (fun _ h _ => h)) (fun _ h _ => h))
  clear h11
  go_wp2_with fail
  go_ret
  exact ⟨rfl, C11.out.below (Nat.le_refl _) (fun _ h => h.elim)⟩

set_option maxHeartbeats 4000000 in
set_option maxRecDepth 100000 in
theorem order_none_no (w : World) (A : Option Addr) (n c : Nat) (L : List Rg) (ha : Ty.At rgK w (fun k => k < w.heap.size) A n c L) (turn : Int) (h1 : n ≤ 30) (h2 : 0 ≤ turn) (h3 : n = 0) (hr : ¬ ∀ x ∈ L, x.right = true) :
    Calls Try.prog 3 #[.slice A n c, .int .i64 turn] w fun e w' => e = .returned (.bool true) ∧ Below w.heap.size w w' := by
  have HA := hid ha
  have HR := hid hr
  have HL := hid ha.1
  have i1 : (n : Int) ≤ 30 := by omega
  obtain ⟨kk, hkk⟩ : ∃ kk : Nat, kk = 0 := ⟨0, rfl⟩
  have hkn : kk ≤ n := by omega
  have i3 : ¬ (0 : Int) < (n : Int) := by omega
  clear ha hr h3
  go_enter Try.func3, Try.ntmps3
  go_wp2_with fail
  refine (anchor_any _).mono ?_
  rintro e w2 ⟨rfl, h2'⟩
  have H2 := hid h2'
  clear h2'
  go_wp2_with fail
  refine (make_no (HA.out.chg H2.out (fun _ _ h => h)) (by omega) HR.out).mono ?_
  rintro e w3 ⟨rfl, hc⟩
  have H3 := hid (H2.out.trans hc (fun _ h _ => h))
  clear hc
  go_wp2_with fail
  have AL := hid (HA.out.chg H3.out (fun _ _ h => h))
  obtain ⟨Ad, cd, hcut, hAd⟩ := at_drop AL.out kk hkn
  obtain ⟨hcut2, hAt⟩ := at_take AL.out kk hkn
  have hk0 : (kk : Int) = 0 := by omega
  rw [hk0] at hcut hcut2
  clear hkk hk0
  obtain ⟨r, hrn⟩ : ∃ r, r = n - kk := ⟨_, rfl⟩
  rw [← hrn] at hcut hAd
  have hrb : r ≤ 30 := by omega
  have hkb2 : kk ≤ 30 := by omega
  have AD := hid hAd
  have AT := hid hAt
  have EL := hid (show r + n + kk = 2 * n from by omega)
  clear hrn hAd hAt
  refine wpB_start (fun _ : World => True) (by kernel_rfl) ?_
  have hHeld := trivial
  -- 1: t35 := move t0 : 22
  refine wpB_take (i := 1) (v := ?_) (get_of_drop rfl) (by kernel_rfl) (by kernel_rfl) (by kernel_rfl) (by kernel_rfl) (fun _ _ _ h => h) (Or.inl ⟨by rfl, ?_⟩) hHeld ?_
  rotate_left
  · (intro w hSw; (try dsimp only at hSw); go_simp <;> with_reducible rfl)
  try simp only [Act.put, List.setIfInBounds_toArray, List.set_cons_zero, List.set_cons_succ]
  -- 2: t36 := move t7 : 3
  refine wpB_take (i := 2) (v := ?_) (get_of_drop rfl) (by kernel_rfl) (by kernel_rfl) (by kernel_rfl) (by kernel_rfl) (fun _ _ _ h => h) (Or.inl ⟨by rfl, ?_⟩) hHeld ?_
  rotate_left
  · (intro w hSw; (try dsimp only at hSw); go_simp <;> with_reducible rfl)
  try simp only [Act.put, List.setIfInBounds_toArray, List.set_cons_zero, List.set_cons_succ]
  -- 3: t37 := slice 22 t35 some t36 none none : 22
  refine wpB_take (i := 3) (v := ?_) (get_of_drop rfl) (by kernel_rfl) (by kernel_rfl) (by kernel_rfl) (by kernel_rfl) (fun _ _ _ h => h) (Or.inl ⟨by rfl, ?_⟩) hHeld ?_
  rotate_left
  · (intro w hSw; (try dsimp only at hSw); go_simp <;> with_reducible rfl)
  try simp only [Act.put, List.setIfInBounds_toArray, List.set_cons_zero, List.set_cons_succ]
  -- 5: t39 := move t0 : 22
  refine wpB_take (i := 5) (v := ?_) (get_of_drop rfl) (by kernel_rfl) (by kernel_rfl) (by kernel_rfl) (by kernel_rfl) (fun _ _ _ h => h) (Or.inl ⟨by rfl, ?_⟩) hHeld ?_
  rotate_left
  · (intro w hSw; (try dsimp only at hSw); go_simp <;> with_reducible rfl)
  try simp only [Act.put, List.setIfInBounds_toArray, List.set_cons_zero, List.set_cons_succ]
  -- 7: t41 := move t0 : 22
  refine wpB_take (i := 7) (v := ?_) (get_of_drop rfl) (by kernel_rfl) (by kernel_rfl) (by kernel_rfl) (by kernel_rfl) (fun _ _ _ h => h) (Or.inl ⟨by rfl, ?_⟩) hHeld ?_
  rotate_left
  · (intro w hSw; (try dsimp only at hSw); go_simp <;> with_reducible rfl)
  try simp only [Act.put, List.setIfInBounds_toArray, List.set_cons_zero, List.set_cons_succ]
  -- 8: t42 := move t7 : 3
  refine wpB_take (i := 8) (v := ?_) (get_of_drop rfl) (by kernel_rfl) (by kernel_rfl) (by kernel_rfl) (by kernel_rfl) (fun _ _ _ h => h) (Or.inl ⟨by rfl, ?_⟩) hHeld ?_
  rotate_left
  · (intro w hSw; (try dsimp only at hSw); go_simp <;> with_reducible rfl)
  try simp only [Act.put, List.setIfInBounds_toArray, List.set_cons_zero, List.set_cons_succ]
  -- 9: t43 := slice 22 t41 none some t42 none : 22
  refine wpB_take (i := 9) (v := ?_) (get_of_drop rfl) (by kernel_rfl) (by kernel_rfl) (by kernel_rfl) (by kernel_rfl) (fun _ _ _ h => h) (Or.inl ⟨by rfl, ?_⟩) hHeld ?_
  rotate_left
  · (intro w hSw; (try dsimp only at hSw); go_simp <;> with_reducible rfl)
  try simp only [Act.put, List.setIfInBounds_toArray, List.set_cons_zero, List.set_cons_succ]
  -- 0: t34 := buildSlice 22 0 [] : 22
  refine wpB_act (i := 0) (by kernel_rfl) (get_of_drop rfl) (fun K hK => ?_)
  go_simp
  refine hK.out _ _ ?_ (fun hHeld2 => ?_)
  · trivial
  clear hHeld hK K
  have hHeld := hHeld2
  clear hHeld2
  try simp only [Act.put, List.setIfInBounds_toArray, List.set_cons_zero, List.set_cons_succ]
  -- 4: t38 := append(t34, t37) types [22, 22] : 22
  refine wpB_act (i := 4) (by kernel_rfl) (get_of_drop rfl) (fun K hK => ?_)
  have C1 := hid (((Chg.refl (fun _ => False) w3).alloc (.cells #[] 46)).drew)
  have VN := hid (show Vec rgK 46 (w3.alloc (.cells #[] 46)).drew (fun k => w3.heap.size ≤ k) (fun _ => False) (.slice (some ⟨w3.heap.size, 0, none⟩) 0 0) [] from ⟨[], World.ownsRow_lit (base := 0) (e := 46) (size := 2) w3 #[] 0 (Nat.zero_le _) (by simp [maxLen]) rfl, fun k hk => by simp [Value.ownBlock] at hk; show w3.heap.size ≤ k; omega, Ty.Row.nil _ _ _⟩)
  obtain ⟨d1, d2, d3, d4, d5⟩ := at_open (AD.out.chg C1.out (fun _ _ h => h))
  refine vec_step (d := rgK) _ rfl (.tmp 34) (.tmp 37) 22 46 (.agg #[.int .i64 0, .int .i64 0]) 16 rfl Try.underlying22 info46 rfl (by decide) (by decide) (.slice (some ⟨w3.heap.size, 0, none⟩) 0 0) rfl VN.out Ad r cd (ys := L.drop kk) rfl d3 d2 d1 d4 (rgc_row d5) (by simp; omega) ?_
  simp only [List.length_nil, Nat.zero_add, List.nil_append]
  intro A5 c5 w5 h5 h6
  have C5 := hid (C1.out.trans h6 (fun k hk hlt => by simp [Value.ownBlock] at hk; omega))
  have V5 := hid h5
  have L5 := hid d1
  clear h5 h6 d1 d2 d3 d4 d5
  refine hK.out _ _ ?_ (fun hHeld2 => ?_)
  · trivial
  clear hHeld hK K
  have hHeld := hHeld2
  clear hHeld2
  try simp only [Act.put, List.setIfInBounds_toArray, List.set_cons_zero, List.set_cons_succ]
  -- 6: t40 := append(t38, t39) types [22, 22] : 22
  refine wpB_act (i := 6) (by kernel_rfl) (get_of_drop rfl) (fun K hK => ?_)
  obtain ⟨d1, d2, d3, d4, d5⟩ := at_open (AL.out.chg C5.out (fun _ _ h => h))
  refine vec_step (d := rgK) _ rfl (.tmp 38) (.tmp 39) 22 46 (.agg #[.int .i64 0, .int .i64 0]) 16 rfl Try.underlying22 info46 rfl (by decide) (by decide) (.slice A5 r c5) rfl V5.out A n c (ys := L) rfl d3 d2 d1 d4 (rgc_row d5) (by rw [← L5.out]; omega) ?_
  rw [← L5.out]
  intro A6 c6 w6 h5 h6
  have C6 := hid (show Chg (fun _ => False) w3 w6 from C5.out.trans h6 (fun k hk hlt => by have q1 := V5.out.inS k hk; have q2 := C1.out.size; omega))
  have V6 := hid (h5.mono (S' := fun k => w3.heap.size ≤ k) (D' := fun _ => False) (fun k hk _ => by have q2 := C1.out.size; have q3 := C5.out.size; omega) (fun _ h _ => h))
  have L6 := hid (show r + n = (L.drop kk ++ L).length by rw [List.length_append, ← L5.out, ← d1])
  clear h5 h6 d1 d2 d3 d4 d5
  refine hK.out _ _ ?_ (fun hHeld2 => ?_)
  · trivial
  clear hHeld hK K
  have hHeld := hHeld2
  clear hHeld2
  try simp only [Act.put, List.setIfInBounds_toArray, List.set_cons_zero, List.set_cons_succ]
  -- 10: t44 := append(t40, t43) types [22, 22] : 22
  refine wpB_act (i := 10) (by kernel_rfl) (get_of_drop rfl) (fun K hK => ?_)
  obtain ⟨d1, d2, d3, d4, d5⟩ := at_open (AT.out.chg C6.out (fun _ _ h => h))
  refine vec_step (d := rgK) _ rfl (.tmp 40) (.tmp 43) 22 46 (.agg #[.int .i64 0, .int .i64 0]) 16 rfl Try.underlying22 info46 rfl (by decide) (by decide) (.slice A6 (r + n) c6) rfl V6.out A kk c (ys := L.take kk) rfl d3 d2 d1 d4 (rgc_row d5) (by rw [← L6.out]; omega) ?_
  rw [← L6.out, EL.out]
  intro A7 c7 w7 h5 h6
  have C7 := hid (show Chg (fun _ => False) w3 w7 from C6.out.trans h6 (fun k hk hlt => by have q1 := V6.out.inS k hk; omega))
  have V7 := hid (h5.at)
  clear h5 h6 d1 d2 d3 d4 d5
  refine hK.out _ _ ?_ (fun hHeld2 => ?_)
  · trivial
  clear hHeld hK K
  have hHeld := hHeld2
  clear hHeld2
  try simp only [Act.put, List.setIfInBounds_toArray, List.set_cons_zero, List.set_cons_succ]
  -- 11: t45 := CALL fn11(t44) : 26
  refine wpB_act (i := 11) (by kernel_rfl) (get_of_drop rfl) (fun K hK => ?_)
  go_simp
  refine (make_no V7.out (by omega) (fun hx => HR.out fun x h => hx x (List.mem_append_left _ (List.mem_append_right _ h)))).mono ?_
  rintro e w8 ⟨rfl, hc⟩
  have C8 := hid (H3.out.trans (C7.out.trans hc (fun _ h _ => h)) (fun _ h _ => h))
  clear hc
  refine hK.out _ _ ?_ (fun hHeld2 => ?_)
  · trivial
  clear hHeld hK K
  have hHeld := hHeld2
  clear hHeld2
  try simp only [Act.put, List.setIfInBounds_toArray, List.set_cons_zero, List.set_cons_succ]
  -- 12: t33 := move t45 : 26
  refine wpB_take (i := 12) (v := ?_) (get_of_drop rfl) (by kernel_rfl) (by kernel_rfl) (by kernel_rfl) (by kernel_rfl) (fun _ _ _ h => h) (Or.inl ⟨by rfl, ?_⟩) hHeld ?_
  rotate_left
  · (intro w hSw; (try dsimp only at hSw); go_simp <;> with_reducible rfl)
  try simp only [Act.put, List.setIfInBounds_toArray, List.set_cons_zero, List.set_cons_succ]
  -- 13: t46 := extract t33 0 : 24
  refine wpB_take (i := 13) (v := ?_) (get_of_drop rfl) (by kernel_rfl) (by kernel_rfl) (by kernel_rfl) (by kernel_rfl) (fun _ _ _ h => h) (Or.inl ⟨by rfl, ?_⟩) hHeld ?_
  rotate_left
  · (intro w hSw; (try dsimp only at hSw); go_simp <;> with_reducible rfl)
  try simp only [Act.put, List.setIfInBounds_toArray, List.set_cons_zero, List.set_cons_succ]
  -- 14: t47 := extract t33 1 : 25
  refine wpB_take (i := 14) (v := ?_) (get_of_drop rfl) (by kernel_rfl) (by kernel_rfl) (by kernel_rfl) (by kernel_rfl) (fun _ _ _ h => h) (Or.inl ⟨by rfl, ?_⟩) hHeld ?_
  rotate_left
  · (intro w hSw; (try dsimp only at hSw); go_simp <;> with_reducible rfl)
  try simp only [Act.put, List.setIfInBounds_toArray, List.set_cons_zero, List.set_cons_succ]
  -- 15: t8 := assign t46 : 24
  refine wpB_take (i := 15) (v := ?_) (get_of_drop rfl) (by kernel_rfl) (by kernel_rfl) (by kernel_rfl) (by kernel_rfl) (fun _ _ _ h => h) (Or.inl ⟨by rfl, ?_⟩) hHeld ?_
  rotate_left
  · (intro w hSw; (try dsimp only at hSw); go_simp <;> with_reducible rfl)
  try simp only [Act.put, List.setIfInBounds_toArray, List.set_cons_zero, List.set_cons_succ]
  -- 16: t9 := assign t47 : 25
  refine wpB_take (i := 16) (v := ?_) (get_of_drop rfl) (by kernel_rfl) (by kernel_rfl) (by kernel_rfl) (by kernel_rfl) (fun _ _ _ h => h) (Or.inl ⟨by rfl, ?_⟩) hHeld ?_
  rotate_left
  · (intro w hSw; (try dsimp only at hSw); go_simp <;> with_reducible rfl)
  try simp only [Act.put, List.setIfInBounds_toArray, List.set_cons_zero, List.set_cons_succ]
  refine wpB_done (by kernel_rfl) ?_ _
  clear hHeld hcut hcut2
  go_wp2_with fail
  go_ret
  exact ⟨rfl, C8.out.below (Nat.le_refl _) (fun _ h => h.elim)⟩

set_option maxHeartbeats 4000000 in
set_option maxRecDepth 100000 in
theorem order_some_yes (w : World) (A : Option Addr) (n c : Nat) (L : List Rg) (ha : Ty.At rgK w (fun k => k < w.heap.size) A n c L) (turn : Int) (h1 : n ≤ 30) (h2 : 0 ≤ turn) (h3 : 0 < n) (hr : ∀ x ∈ L, x.right = true) :
    Calls Try.prog 3 #[.slice A n c, .int .i64 turn] w fun e w' => e = .returned (.bool true) ∧ Below w.heap.size w w' := by
  have HA := hid ha
  have HR := hid hr
  have HL := hid ha.1
  have i1 : (n : Int) ≤ 30 := by omega
  have i3 : (0 : Int) < (n : Int) := by omega
  have i4 : (n : Int) ≠ 0 := by omega
  obtain ⟨kk, hkk⟩ : ∃ kk : Nat, Int.tmod turn (n : Int) = (kk : Int) := ⟨(Int.tmod turn (n : Int)).toNat, (Int.toNat_of_nonneg (Int.tmod_nonneg _ h2)).symm⟩
  have hkn : kk ≤ n := by
    have := Int.tmod_lt_of_pos turn i3
    omega
  have hkb : (kk : Int) ≤ 30 := by omega
  clear ha hr h3
  go_enter Try.func3, Try.ntmps3
  go_wp2_with fail
  refine (anchor_any _).mono ?_
  rintro e w2 ⟨rfl, h2'⟩
  have H2 := hid h2'
  clear h2'
  go_wp2_with fail
  refine (make_ok (HA.out.chg H2.out (fun _ _ h => h)) (by omega) HR.out).mono ?_
  rintro e w3 ⟨v, qa, rfl, ⟨hn, hh, hl⟩, hv, hc⟩
  obtain ⟨Aa, ca, ma, rfl, hm, hat⟩ := own_form_len hv
  have Na := hid hn
  have Pa := hid hh
  have ba : ma ≤ 30 := by omega
  have Sa := hid hat
  clear hn hh hl hm hv hat
  have H3 := hid (H2.out.trans hc (fun _ h _ => h))
  clear hc
  go_wp2_with fail
  have AL := hid (HA.out.chg H3.out (fun _ _ h => h))
  obtain ⟨Ad, cd, hcut, hAd⟩ := at_drop AL.out kk hkn
  obtain ⟨hcut2, hAt⟩ := at_take AL.out kk hkn
  obtain ⟨r, hrn⟩ : ∃ r, r = n - kk := ⟨_, rfl⟩
  rw [← hrn] at hcut hAd
  have hrb : r ≤ 30 := by omega
  have hkb2 : kk ≤ 30 := by omega
  have AD := hid hAd
  have AT := hid hAt
  have EL := hid (show r + n + kk = 2 * n from by omega)
  clear hrn hAd hAt
  refine wpB_start (fun _ : World => True) (by kernel_rfl) ?_
  have hHeld := trivial
  -- 1: t35 := move t0 : 22
  refine wpB_take (i := 1) (v := ?_) (get_of_drop rfl) (by kernel_rfl) (by kernel_rfl) (by kernel_rfl) (by kernel_rfl) (fun _ _ _ h => h) (Or.inl ⟨by rfl, ?_⟩) hHeld ?_
  rotate_left
  · (intro w hSw; (try dsimp only at hSw); go_simp <;> with_reducible rfl)
  try simp only [Act.put, List.setIfInBounds_toArray, List.set_cons_zero, List.set_cons_succ]
  -- 2: t36 := move t7 : 3
  refine wpB_take (i := 2) (v := ?_) (get_of_drop rfl) (by kernel_rfl) (by kernel_rfl) (by kernel_rfl) (by kernel_rfl) (fun _ _ _ h => h) (Or.inl ⟨by rfl, ?_⟩) hHeld ?_
  rotate_left
  · (intro w hSw; (try dsimp only at hSw); go_simp <;> with_reducible rfl)
  try simp only [Act.put, List.setIfInBounds_toArray, List.set_cons_zero, List.set_cons_succ]
  -- 3: t37 := slice 22 t35 some t36 none none : 22
  refine wpB_take (i := 3) (v := ?_) (get_of_drop rfl) (by kernel_rfl) (by kernel_rfl) (by kernel_rfl) (by kernel_rfl) (fun _ _ _ h => h) (Or.inl ⟨by rfl, ?_⟩) hHeld ?_
  rotate_left
  · (intro w hSw; (try dsimp only at hSw); go_simp <;> with_reducible rfl)
  try simp only [Act.put, List.setIfInBounds_toArray, List.set_cons_zero, List.set_cons_succ]
  -- 5: t39 := move t0 : 22
  refine wpB_take (i := 5) (v := ?_) (get_of_drop rfl) (by kernel_rfl) (by kernel_rfl) (by kernel_rfl) (by kernel_rfl) (fun _ _ _ h => h) (Or.inl ⟨by rfl, ?_⟩) hHeld ?_
  rotate_left
  · (intro w hSw; (try dsimp only at hSw); go_simp <;> with_reducible rfl)
  try simp only [Act.put, List.setIfInBounds_toArray, List.set_cons_zero, List.set_cons_succ]
  -- 7: t41 := move t0 : 22
  refine wpB_take (i := 7) (v := ?_) (get_of_drop rfl) (by kernel_rfl) (by kernel_rfl) (by kernel_rfl) (by kernel_rfl) (fun _ _ _ h => h) (Or.inl ⟨by rfl, ?_⟩) hHeld ?_
  rotate_left
  · (intro w hSw; (try dsimp only at hSw); go_simp <;> with_reducible rfl)
  try simp only [Act.put, List.setIfInBounds_toArray, List.set_cons_zero, List.set_cons_succ]
  -- 8: t42 := move t7 : 3
  refine wpB_take (i := 8) (v := ?_) (get_of_drop rfl) (by kernel_rfl) (by kernel_rfl) (by kernel_rfl) (by kernel_rfl) (fun _ _ _ h => h) (Or.inl ⟨by rfl, ?_⟩) hHeld ?_
  rotate_left
  · (intro w hSw; (try dsimp only at hSw); go_simp <;> with_reducible rfl)
  try simp only [Act.put, List.setIfInBounds_toArray, List.set_cons_zero, List.set_cons_succ]
  -- 9: t43 := slice 22 t41 none some t42 none : 22
  refine wpB_take (i := 9) (v := ?_) (get_of_drop rfl) (by kernel_rfl) (by kernel_rfl) (by kernel_rfl) (by kernel_rfl) (fun _ _ _ h => h) (Or.inl ⟨by rfl, ?_⟩) hHeld ?_
  rotate_left
  · (intro w hSw; (try dsimp only at hSw); go_simp <;> with_reducible rfl)
  try simp only [Act.put, List.setIfInBounds_toArray, List.set_cons_zero, List.set_cons_succ]
  -- 0: t34 := buildSlice 22 0 [] : 22
  refine wpB_act (i := 0) (by kernel_rfl) (get_of_drop rfl) (fun K hK => ?_)
  go_simp
  refine hK.out _ _ ?_ (fun hHeld2 => ?_)
  · trivial
  clear hHeld hK K
  have hHeld := hHeld2
  clear hHeld2
  try simp only [Act.put, List.setIfInBounds_toArray, List.set_cons_zero, List.set_cons_succ]
  -- 4: t38 := append(t34, t37) types [22, 22] : 22
  refine wpB_act (i := 4) (by kernel_rfl) (get_of_drop rfl) (fun K hK => ?_)
  have C1 := hid (((Chg.refl (fun _ => False) w3).alloc (.cells #[] 46)).drew)
  have VN := hid (show Vec rgK 46 (w3.alloc (.cells #[] 46)).drew (fun k => w3.heap.size ≤ k) (fun _ => False) (.slice (some ⟨w3.heap.size, 0, none⟩) 0 0) [] from ⟨[], World.ownsRow_lit (base := 0) (e := 46) (size := 2) w3 #[] 0 (Nat.zero_le _) (by simp [maxLen]) rfl, fun k hk => by simp [Value.ownBlock] at hk; show w3.heap.size ≤ k; omega, Ty.Row.nil _ _ _⟩)
  obtain ⟨d1, d2, d3, d4, d5⟩ := at_open (AD.out.chg C1.out (fun _ _ h => h))
  refine vec_step (d := rgK) _ rfl (.tmp 34) (.tmp 37) 22 46 (.agg #[.int .i64 0, .int .i64 0]) 16 rfl Try.underlying22 info46 rfl (by decide) (by decide) (.slice (some ⟨w3.heap.size, 0, none⟩) 0 0) rfl VN.out Ad r cd (ys := L.drop kk) rfl d3 d2 d1 d4 (rgc_row d5) (by simp; omega) ?_
  simp only [List.length_nil, Nat.zero_add, List.nil_append]
  intro A5 c5 w5 h5 h6
  have C5 := hid (C1.out.trans h6 (fun k hk hlt => by simp [Value.ownBlock] at hk; omega))
  have V5 := hid h5
  have L5 := hid d1
  clear h5 h6 d1 d2 d3 d4 d5
  refine hK.out _ _ ?_ (fun hHeld2 => ?_)
  · trivial
  clear hHeld hK K
  have hHeld := hHeld2
  clear hHeld2
  try simp only [Act.put, List.setIfInBounds_toArray, List.set_cons_zero, List.set_cons_succ]
  -- 6: t40 := append(t38, t39) types [22, 22] : 22
  refine wpB_act (i := 6) (by kernel_rfl) (get_of_drop rfl) (fun K hK => ?_)
  obtain ⟨d1, d2, d3, d4, d5⟩ := at_open (AL.out.chg C5.out (fun _ _ h => h))
  refine vec_step (d := rgK) _ rfl (.tmp 38) (.tmp 39) 22 46 (.agg #[.int .i64 0, .int .i64 0]) 16 rfl Try.underlying22 info46 rfl (by decide) (by decide) (.slice A5 r c5) rfl V5.out A n c (ys := L) rfl d3 d2 d1 d4 (rgc_row d5) (by rw [← L5.out]; omega) ?_
  rw [← L5.out]
  intro A6 c6 w6 h5 h6
  have C6 := hid (show Chg (fun _ => False) w3 w6 from C5.out.trans h6 (fun k hk hlt => by have q1 := V5.out.inS k hk; have q2 := C1.out.size; omega))
  have V6 := hid (h5.mono (S' := fun k => w3.heap.size ≤ k) (D' := fun _ => False) (fun k hk _ => by have q2 := C1.out.size; have q3 := C5.out.size; omega) (fun _ h _ => h))
  have L6 := hid (show r + n = (L.drop kk ++ L).length by rw [List.length_append, ← L5.out, ← d1])
  clear h5 h6 d1 d2 d3 d4 d5
  refine hK.out _ _ ?_ (fun hHeld2 => ?_)
  · trivial
  clear hHeld hK K
  have hHeld := hHeld2
  clear hHeld2
  try simp only [Act.put, List.setIfInBounds_toArray, List.set_cons_zero, List.set_cons_succ]
  -- 10: t44 := append(t40, t43) types [22, 22] : 22
  refine wpB_act (i := 10) (by kernel_rfl) (get_of_drop rfl) (fun K hK => ?_)
  obtain ⟨d1, d2, d3, d4, d5⟩ := at_open (AT.out.chg C6.out (fun _ _ h => h))
  refine vec_step (d := rgK) _ rfl (.tmp 40) (.tmp 43) 22 46 (.agg #[.int .i64 0, .int .i64 0]) 16 rfl Try.underlying22 info46 rfl (by decide) (by decide) (.slice A6 (r + n) c6) rfl V6.out A kk c (ys := L.take kk) rfl d3 d2 d1 d4 (rgc_row d5) (by rw [← L6.out]; omega) ?_
  rw [← L6.out, EL.out]
  intro A7 c7 w7 h5 h6
  have C7 := hid (show Chg (fun _ => False) w3 w7 from C6.out.trans h6 (fun k hk hlt => by have q1 := V6.out.inS k hk; omega))
  have V7 := hid (h5.at)
  clear h5 h6 d1 d2 d3 d4 d5
  refine hK.out _ _ ?_ (fun hHeld2 => ?_)
  · trivial
  clear hHeld hK K
  have hHeld := hHeld2
  clear hHeld2
  try simp only [Act.put, List.setIfInBounds_toArray, List.set_cons_zero, List.set_cons_succ]
  -- 11: t45 := CALL fn11(t44) : 26
  refine wpB_act (i := 11) (by kernel_rfl) (get_of_drop rfl) (fun K hK => ?_)
  go_simp
  refine (make_ok V7.out (by omega) (fun x hx => by
    rcases List.mem_append.1 hx with hx | hx
    · rcases List.mem_append.1 hx with hx | hx
      · exact HR.out x (List.mem_of_mem_drop hx)
      · exact HR.out x hx
    · exact HR.out x (List.mem_of_mem_take hx))).mono ?_
  rintro e w8 ⟨v, qb, rfl, ⟨hn, hh, hl⟩, hv, hc⟩
  obtain ⟨Ab, cb, mb, rfl, hm, hat⟩ := own_form_len hv
  have Eab := hid (show qa = qb from ext Na.out hn (fun u => by
    rw [Pa.out, hh, has_append, has_append]
    have q1 : has (L.drop kk) u = true → has L u = true := fun q => by
      unfold has at q ⊢
      obtain ⟨x, hx, hp⟩ := List.any_eq_true.1 q
      exact List.any_eq_true.2 ⟨x, List.mem_of_mem_drop hx, hp⟩
    have q2 : has (L.take kk) u = true → has L u = true := fun q => by
      unfold has at q ⊢
      obtain ⟨x, hx, hp⟩ := List.any_eq_true.1 q
      exact List.any_eq_true.2 ⟨x, List.mem_of_mem_take hx, hp⟩
    cases e1 : has L u
    · cases e2 : has (L.drop kk) u
      · cases e3 : has (L.take kk) u
        · rfl
        · rw [q2 e3] at e1; cases e1
      · rw [q1 e2] at e1; cases e1
    · simp))
  have bb : mb ≤ 60 := by omega
  have Sb := hid hat
  have C8 := hid (C7.out.trans hc (fun _ h _ => h))
  clear hn hh hl hm hv hat hc
  refine hK.out _ _ ?_ (fun hHeld2 => ?_)
  · trivial
  clear hHeld hK K
  have hHeld := hHeld2
  clear hHeld2
  try simp only [Act.put, List.setIfInBounds_toArray, List.set_cons_zero, List.set_cons_succ]
  -- 12: t33 := move t45 : 26
  refine wpB_take (i := 12) (v := ?_) (get_of_drop rfl) (by kernel_rfl) (by kernel_rfl) (by kernel_rfl) (by kernel_rfl) (fun _ _ _ h => h) (Or.inl ⟨by rfl, ?_⟩) hHeld ?_
  rotate_left
  · (intro w hSw; (try dsimp only at hSw); go_simp <;> with_reducible rfl)
  try simp only [Act.put, List.setIfInBounds_toArray, List.set_cons_zero, List.set_cons_succ]
  -- 13: t46 := extract t33 0 : 24
  refine wpB_take (i := 13) (v := ?_) (get_of_drop rfl) (by kernel_rfl) (by kernel_rfl) (by kernel_rfl) (by kernel_rfl) (fun _ _ _ h => h) (Or.inl ⟨by rfl, ?_⟩) hHeld ?_
  rotate_left
  · (intro w hSw; (try dsimp only at hSw); go_simp <;> with_reducible rfl)
  try simp only [Act.put, List.setIfInBounds_toArray, List.set_cons_zero, List.set_cons_succ]
  -- 14: t47 := extract t33 1 : 25
  refine wpB_take (i := 14) (v := ?_) (get_of_drop rfl) (by kernel_rfl) (by kernel_rfl) (by kernel_rfl) (by kernel_rfl) (fun _ _ _ h => h) (Or.inl ⟨by rfl, ?_⟩) hHeld ?_
  rotate_left
  · (intro w hSw; (try dsimp only at hSw); go_simp <;> with_reducible rfl)
  try simp only [Act.put, List.setIfInBounds_toArray, List.set_cons_zero, List.set_cons_succ]
  -- 15: t8 := assign t46 : 24
  refine wpB_take (i := 15) (v := ?_) (get_of_drop rfl) (by kernel_rfl) (by kernel_rfl) (by kernel_rfl) (by kernel_rfl) (fun _ _ _ h => h) (Or.inl ⟨by rfl, ?_⟩) hHeld ?_
  rotate_left
  · (intro w hSw; (try dsimp only at hSw); go_simp <;> with_reducible rfl)
  try simp only [Act.put, List.setIfInBounds_toArray, List.set_cons_zero, List.set_cons_succ]
  -- 16: t9 := assign t47 : 25
  refine wpB_take (i := 16) (v := ?_) (get_of_drop rfl) (by kernel_rfl) (by kernel_rfl) (by kernel_rfl) (by kernel_rfl) (fun _ _ _ h => h) (Or.inl ⟨by rfl, ?_⟩) hHeld ?_
  rotate_left
  · (intro w hSw; (try dsimp only at hSw); go_simp <;> with_reducible rfl)
  try simp only [Act.put, List.setIfInBounds_toArray, List.set_cons_zero, List.set_cons_succ]
  refine wpB_done (by kernel_rfl) ?_ _
  clear hHeld hcut hcut2
  go_wp2_with fail
  refine (make_ok (Sa.out.chg C8.out (fun _ _ h => h)) (by omega) (nrm_right Na.out)).mono ?_
  rintro e w9 ⟨v, qc, rfl, ⟨hn, hh, hl⟩, hv, hc⟩
  obtain ⟨Ac, cc, mc, rfl, hm, hat⟩ := own_form_len hv
  have Eac := hid (show qa = qc from ext Na.out hn (fun u => (hh u).symm))
  have bc : mc ≤ 60 := by omega
  have Sc := hid hat
  have C9 := hid (C8.out.trans hc (fun _ h _ => h))
  have Sb9 := hid (Sb.out.chg hc (fun _ _ h => h))
  clear hn hh hl hm hv hat hc
  go_wp2_with fail
  refine (same_any (Sa.out.chg C9.out (fun _ _ h => h)) Sb9.out (by omega) (by omega)).mono ?_
  rintro e w10 ⟨rfl, h10⟩
  rw [decide_eq_true Eab.out]
  have C10 := hid (C9.out.trans h10 (fun _ h _ => h))
  have Sc10 := hid (Sc.out.chg h10 (fun _ _ h => h))
  clear h10
  go_wp2_with fail
  refine (same_any (Sa.out.chg C10.out (fun _ _ h => h)) Sc10.out (by omega) (by omega)).mono ?_
  rintro e w11 ⟨rfl, h11⟩
  rw [decide_eq_true Eac.out]
  have C11 := hid (H3.out.trans (C10.out.trans h11 (fun _ h _ => h)) (fun _ h _ => h))
  clear h11
  go_wp2_with fail
  go_ret
  exact ⟨rfl, C11.out.below (Nat.le_refl _) (fun _ h => h.elim)⟩

set_option maxHeartbeats 4000000 in
set_option maxRecDepth 100000 in
theorem order_some_no (w : World) (A : Option Addr) (n c : Nat) (L : List Rg) (ha : Ty.At rgK w (fun k => k < w.heap.size) A n c L) (turn : Int) (h1 : n ≤ 30) (h2 : 0 ≤ turn) (h3 : 0 < n) (hr : ¬ ∀ x ∈ L, x.right = true) :
    Calls Try.prog 3 #[.slice A n c, .int .i64 turn] w fun e w' => e = .returned (.bool true) ∧ Below w.heap.size w w' := by
  have HA := hid ha
  have HR := hid hr
  have HL := hid ha.1
  have i1 : (n : Int) ≤ 30 := by omega
  have i3 : (0 : Int) < (n : Int) := by omega
  have i4 : (n : Int) ≠ 0 := by omega
  obtain ⟨kk, hkk⟩ : ∃ kk : Nat, Int.tmod turn (n : Int) = (kk : Int) := ⟨(Int.tmod turn (n : Int)).toNat, (Int.toNat_of_nonneg (Int.tmod_nonneg _ h2)).symm⟩
  have hkn : kk ≤ n := by
    have := Int.tmod_lt_of_pos turn i3
    omega
  have hkb : (kk : Int) ≤ 30 := by omega
  clear ha hr h3
  go_enter Try.func3, Try.ntmps3
  go_wp2_with fail
  refine (anchor_any _).mono ?_
  rintro e w2 ⟨rfl, h2'⟩
  have H2 := hid h2'
  clear h2'
  go_wp2_with fail
  refine (make_no (HA.out.chg H2.out (fun _ _ h => h)) (by omega) HR.out).mono ?_
  rintro e w3 ⟨rfl, hc⟩
  have H3 := hid (H2.out.trans hc (fun _ h _ => h))
  clear hc
  go_wp2_with fail
  have AL := hid (HA.out.chg H3.out (fun _ _ h => h))
  obtain ⟨Ad, cd, hcut, hAd⟩ := at_drop AL.out kk hkn
  obtain ⟨hcut2, hAt⟩ := at_take AL.out kk hkn
  obtain ⟨r, hrn⟩ : ∃ r, r = n - kk := ⟨_, rfl⟩
  rw [← hrn] at hcut hAd
  have hrb : r ≤ 30 := by omega
  have hkb2 : kk ≤ 30 := by omega
  have AD := hid hAd
  have AT := hid hAt
  have EL := hid (show r + n + kk = 2 * n from by omega)
  clear hrn hAd hAt
  refine wpB_start (fun _ : World => True) (by kernel_rfl) ?_
  have hHeld := trivial
  -- 1: t35 := move t0 : 22
  refine wpB_take (i := 1) (v := ?_) (get_of_drop rfl) (by kernel_rfl) (by kernel_rfl) (by kernel_rfl) (by kernel_rfl) (fun _ _ _ h => h) (Or.inl ⟨by rfl, ?_⟩) hHeld ?_
  rotate_left
  · (intro w hSw; (try dsimp only at hSw); go_simp <;> with_reducible rfl)
  try simp only [Act.put, List.setIfInBounds_toArray, List.set_cons_zero, List.set_cons_succ]
  -- 2: t36 := move t7 : 3
  refine wpB_take (i := 2) (v := ?_) (get_of_drop rfl) (by kernel_rfl) (by kernel_rfl) (by kernel_rfl) (by kernel_rfl) (fun _ _ _ h => h) (Or.inl ⟨by rfl, ?_⟩) hHeld ?_
  rotate_left
  · (intro w hSw; (try dsimp only at hSw); go_simp <;> with_reducible rfl)
  try simp only [Act.put, List.setIfInBounds_toArray, List.set_cons_zero, List.set_cons_succ]
  -- 3: t37 := slice 22 t35 some t36 none none : 22
  refine wpB_take (i := 3) (v := ?_) (get_of_drop rfl) (by kernel_rfl) (by kernel_rfl) (by kernel_rfl) (by kernel_rfl) (fun _ _ _ h => h) (Or.inl ⟨by rfl, ?_⟩) hHeld ?_
  rotate_left
  · (intro w hSw; (try dsimp only at hSw); go_simp <;> with_reducible rfl)
  try simp only [Act.put, List.setIfInBounds_toArray, List.set_cons_zero, List.set_cons_succ]
  -- 5: t39 := move t0 : 22
  refine wpB_take (i := 5) (v := ?_) (get_of_drop rfl) (by kernel_rfl) (by kernel_rfl) (by kernel_rfl) (by kernel_rfl) (fun _ _ _ h => h) (Or.inl ⟨by rfl, ?_⟩) hHeld ?_
  rotate_left
  · (intro w hSw; (try dsimp only at hSw); go_simp <;> with_reducible rfl)
  try simp only [Act.put, List.setIfInBounds_toArray, List.set_cons_zero, List.set_cons_succ]
  -- 7: t41 := move t0 : 22
  refine wpB_take (i := 7) (v := ?_) (get_of_drop rfl) (by kernel_rfl) (by kernel_rfl) (by kernel_rfl) (by kernel_rfl) (fun _ _ _ h => h) (Or.inl ⟨by rfl, ?_⟩) hHeld ?_
  rotate_left
  · (intro w hSw; (try dsimp only at hSw); go_simp <;> with_reducible rfl)
  try simp only [Act.put, List.setIfInBounds_toArray, List.set_cons_zero, List.set_cons_succ]
  -- 8: t42 := move t7 : 3
  refine wpB_take (i := 8) (v := ?_) (get_of_drop rfl) (by kernel_rfl) (by kernel_rfl) (by kernel_rfl) (by kernel_rfl) (fun _ _ _ h => h) (Or.inl ⟨by rfl, ?_⟩) hHeld ?_
  rotate_left
  · (intro w hSw; (try dsimp only at hSw); go_simp <;> with_reducible rfl)
  try simp only [Act.put, List.setIfInBounds_toArray, List.set_cons_zero, List.set_cons_succ]
  -- 9: t43 := slice 22 t41 none some t42 none : 22
  refine wpB_take (i := 9) (v := ?_) (get_of_drop rfl) (by kernel_rfl) (by kernel_rfl) (by kernel_rfl) (by kernel_rfl) (fun _ _ _ h => h) (Or.inl ⟨by rfl, ?_⟩) hHeld ?_
  rotate_left
  · (intro w hSw; (try dsimp only at hSw); go_simp <;> with_reducible rfl)
  try simp only [Act.put, List.setIfInBounds_toArray, List.set_cons_zero, List.set_cons_succ]
  -- 0: t34 := buildSlice 22 0 [] : 22
  refine wpB_act (i := 0) (by kernel_rfl) (get_of_drop rfl) (fun K hK => ?_)
  go_simp
  refine hK.out _ _ ?_ (fun hHeld2 => ?_)
  · trivial
  clear hHeld hK K
  have hHeld := hHeld2
  clear hHeld2
  try simp only [Act.put, List.setIfInBounds_toArray, List.set_cons_zero, List.set_cons_succ]
  -- 4: t38 := append(t34, t37) types [22, 22] : 22
  refine wpB_act (i := 4) (by kernel_rfl) (get_of_drop rfl) (fun K hK => ?_)
  have C1 := hid (((Chg.refl (fun _ => False) w3).alloc (.cells #[] 46)).drew)
  have VN := hid (show Vec rgK 46 (w3.alloc (.cells #[] 46)).drew (fun k => w3.heap.size ≤ k) (fun _ => False) (.slice (some ⟨w3.heap.size, 0, none⟩) 0 0) [] from ⟨[], World.ownsRow_lit (base := 0) (e := 46) (size := 2) w3 #[] 0 (Nat.zero_le _) (by simp [maxLen]) rfl, fun k hk => by simp [Value.ownBlock] at hk; show w3.heap.size ≤ k; omega, Ty.Row.nil _ _ _⟩)
  obtain ⟨d1, d2, d3, d4, d5⟩ := at_open (AD.out.chg C1.out (fun _ _ h => h))
  refine vec_step (d := rgK) _ rfl (.tmp 34) (.tmp 37) 22 46 (.agg #[.int .i64 0, .int .i64 0]) 16 rfl Try.underlying22 info46 rfl (by decide) (by decide) (.slice (some ⟨w3.heap.size, 0, none⟩) 0 0) rfl VN.out Ad r cd (ys := L.drop kk) rfl d3 d2 d1 d4 (rgc_row d5) (by simp; omega) ?_
  simp only [List.length_nil, Nat.zero_add, List.nil_append]
  intro A5 c5 w5 h5 h6
  have C5 := hid (C1.out.trans h6 (fun k hk hlt => by simp [Value.ownBlock] at hk; omega))
  have V5 := hid h5
  have L5 := hid d1
  clear h5 h6 d1 d2 d3 d4 d5
  refine hK.out _ _ ?_ (fun hHeld2 => ?_)
  · trivial
  clear hHeld hK K
  have hHeld := hHeld2
  clear hHeld2
  try simp only [Act.put, List.setIfInBounds_toArray, List.set_cons_zero, List.set_cons_succ]
  -- 6: t40 := append(t38, t39) types [22, 22] : 22
  refine wpB_act (i := 6) (by kernel_rfl) (get_of_drop rfl) (fun K hK => ?_)
  obtain ⟨d1, d2, d3, d4, d5⟩ := at_open (AL.out.chg C5.out (fun _ _ h => h))
  refine vec_step (d := rgK) _ rfl (.tmp 38) (.tmp 39) 22 46 (.agg #[.int .i64 0, .int .i64 0]) 16 rfl Try.underlying22 info46 rfl (by decide) (by decide) (.slice A5 r c5) rfl V5.out A n c (ys := L) rfl d3 d2 d1 d4 (rgc_row d5) (by rw [← L5.out]; omega) ?_
  rw [← L5.out]
  intro A6 c6 w6 h5 h6
  have C6 := hid (show Chg (fun _ => False) w3 w6 from C5.out.trans h6 (fun k hk hlt => by have q1 := V5.out.inS k hk; have q2 := C1.out.size; omega))
  have V6 := hid (h5.mono (S' := fun k => w3.heap.size ≤ k) (D' := fun _ => False) (fun k hk _ => by have q2 := C1.out.size; have q3 := C5.out.size; omega) (fun _ h _ => h))
  have L6 := hid (show r + n = (L.drop kk ++ L).length by rw [List.length_append, ← L5.out, ← d1])
  clear h5 h6 d1 d2 d3 d4 d5
  refine hK.out _ _ ?_ (fun hHeld2 => ?_)
  · trivial
  clear hHeld hK K
  have hHeld := hHeld2
  clear hHeld2
  try simp only [Act.put, List.setIfInBounds_toArray, List.set_cons_zero, List.set_cons_succ]
  -- 10: t44 := append(t40, t43) types [22, 22] : 22
  refine wpB_act (i := 10) (by kernel_rfl) (get_of_drop rfl) (fun K hK => ?_)
  obtain ⟨d1, d2, d3, d4, d5⟩ := at_open (AT.out.chg C6.out (fun _ _ h => h))
  refine vec_step (d := rgK) _ rfl (.tmp 40) (.tmp 43) 22 46 (.agg #[.int .i64 0, .int .i64 0]) 16 rfl Try.underlying22 info46 rfl (by decide) (by decide) (.slice A6 (r + n) c6) rfl V6.out A kk c (ys := L.take kk) rfl d3 d2 d1 d4 (rgc_row d5) (by rw [← L6.out]; omega) ?_
  rw [← L6.out, EL.out]
  intro A7 c7 w7 h5 h6
  have C7 := hid (show Chg (fun _ => False) w3 w7 from C6.out.trans h6 (fun k hk hlt => by have q1 := V6.out.inS k hk; omega))
  have V7 := hid (h5.at)
  clear h5 h6 d1 d2 d3 d4 d5
  refine hK.out _ _ ?_ (fun hHeld2 => ?_)
  · trivial
  clear hHeld hK K
  have hHeld := hHeld2
  clear hHeld2
  try simp only [Act.put, List.setIfInBounds_toArray, List.set_cons_zero, List.set_cons_succ]
  -- 11: t45 := CALL fn11(t44) : 26
  refine wpB_act (i := 11) (by kernel_rfl) (get_of_drop rfl) (fun K hK => ?_)
  go_simp
  refine (make_no V7.out (by omega) (fun hx => HR.out fun x h => hx x (List.mem_append_left _ (List.mem_append_right _ h)))).mono ?_
  rintro e w8 ⟨rfl, hc⟩
  have C8 := hid (H3.out.trans (C7.out.trans hc (fun _ h _ => h)) (fun _ h _ => h))
  clear hc
  refine hK.out _ _ ?_ (fun hHeld2 => ?_)
  · trivial
  clear hHeld hK K
  have hHeld := hHeld2
  clear hHeld2
  try simp only [Act.put, List.setIfInBounds_toArray, List.set_cons_zero, List.set_cons_succ]
  -- 12: t33 := move t45 : 26
  refine wpB_take (i := 12) (v := ?_) (get_of_drop rfl) (by kernel_rfl) (by kernel_rfl) (by kernel_rfl) (by kernel_rfl) (fun _ _ _ h => h) (Or.inl ⟨by rfl, ?_⟩) hHeld ?_
  rotate_left
  · (intro w hSw; (try dsimp only at hSw); go_simp <;> with_reducible rfl)
  try simp only [Act.put, List.setIfInBounds_toArray, List.set_cons_zero, List.set_cons_succ]
  -- 13: t46 := extract t33 0 : 24
  refine wpB_take (i := 13) (v := ?_) (get_of_drop rfl) (by kernel_rfl) (by kernel_rfl) (by kernel_rfl) (by kernel_rfl) (fun _ _ _ h => h) (Or.inl ⟨by rfl, ?_⟩) hHeld ?_
  rotate_left
  · (intro w hSw; (try dsimp only at hSw); go_simp <;> with_reducible rfl)
  try simp only [Act.put, List.setIfInBounds_toArray, List.set_cons_zero, List.set_cons_succ]
  -- 14: t47 := extract t33 1 : 25
  refine wpB_take (i := 14) (v := ?_) (get_of_drop rfl) (by kernel_rfl) (by kernel_rfl) (by kernel_rfl) (by kernel_rfl) (fun _ _ _ h => h) (Or.inl ⟨by rfl, ?_⟩) hHeld ?_
  rotate_left
  · (intro w hSw; (try dsimp only at hSw); go_simp <;> with_reducible rfl)
  try simp only [Act.put, List.setIfInBounds_toArray, List.set_cons_zero, List.set_cons_succ]
  -- 15: t8 := assign t46 : 24
  refine wpB_take (i := 15) (v := ?_) (get_of_drop rfl) (by kernel_rfl) (by kernel_rfl) (by kernel_rfl) (by kernel_rfl) (fun _ _ _ h => h) (Or.inl ⟨by rfl, ?_⟩) hHeld ?_
  rotate_left
  · (intro w hSw; (try dsimp only at hSw); go_simp <;> with_reducible rfl)
  try simp only [Act.put, List.setIfInBounds_toArray, List.set_cons_zero, List.set_cons_succ]
  -- 16: t9 := assign t47 : 25
  refine wpB_take (i := 16) (v := ?_) (get_of_drop rfl) (by kernel_rfl) (by kernel_rfl) (by kernel_rfl) (by kernel_rfl) (fun _ _ _ h => h) (Or.inl ⟨by rfl, ?_⟩) hHeld ?_
  rotate_left
  · (intro w hSw; (try dsimp only at hSw); go_simp <;> with_reducible rfl)
  try simp only [Act.put, List.setIfInBounds_toArray, List.set_cons_zero, List.set_cons_succ]
  refine wpB_done (by kernel_rfl) ?_ _
  clear hHeld hcut hcut2
  go_wp2_with fail
  go_ret
  exact ⟨rfl, C8.out.below (Nat.le_refl _) (fun _ h => h.elim)⟩

theorem ClassOrder_walk (w : World) (A : Option Addr) (n c : Nat) (L : List Rg) (ha : Ty.At rgK w (fun k => k < w.heap.size) A n c L) (turn : Int) (ht : (Lit.int .i64 turn).wf = true) :
    Calls Try.prog 3 #[.slice A n c, .int .i64 turn] w fun e w' => e = .returned (.bool true) ∧ Below w.heap.size w w' := by
  by_cases h1 : n ≤ 30
  · by_cases h2 : 0 ≤ turn
    · rcases Nat.eq_zero_or_pos n with h3 | h3
      · by_cases hr : ∀ x ∈ L, x.right = true
        · exact order_none_yes w A n c L ha turn h1 h2 h3 hr
        · exact order_none_no w A n c L ha turn h1 h2 h3 hr
      · by_cases hr : ∀ x ∈ L, x.right = true
        · exact order_some_yes w A n c L ha turn h1 h2 h3 hr
        · exact order_some_no w A n c L ha turn h1 h2 h3 hr
    · exact order_out2 w A n c L ha turn h1 (by omega)
  · exact order_out1 w A n c L ha turn (by omega)
end Go.Proofs.Ytoojifcpjbakgaa.Cl
