/- Texts of this claim, one behind the other: RepV, RepW. -/
import Derived.Test.YtaldoajdhbndhaaMD

/- Tick. -/

namespace Go.Proofs.Ytaldoajdhbndhaa.Pa

set_option linter.unusedVariables false

set_option linter.unusedSimpArgs false

open Go.RowKit Go.Proofs.Ytaldoajdhbndhaa.C

attribute [local go_sem] max2_int min2_int max_two min_two

/-- What a call leaves: what it says, and the replica, which has said nothing since. -/
def Stood (w : World) (p b1 b2 b3 : Nat) (X : Nat → Prop) (r' : Rp) (v : Value → Value) (e' : Ending) (w' : World) : Prop :=
  ∃ O', e' = .returned (v O') ∧ (∃ A' n' c', Rep w w' p b1 b2 b3 X { r' with out := [] } A' n' c' (.slice none 0 0)) ∧ Vec msgK 41 w' (fun k => w.heap.size ≤ k) (fun k => w.heap.size ≤ k) O' r'.out ∧ Chg (M4 p b1 b2 b3) w w'
theorem no_own {p b1 b2 b3 : Nat} {a b : World} (h : Chg (fun j => M4 p b1 b2 b3 j ∨ (Value.slice none 0 0).ownBlock = some j) a b) : Chg (M4 p b1 b2 b3) a b := h.mono (fun j hj _ => by rcases hj with h | h; exact h; simp [Value.ownBlock] at h)
theorem Rep.again {w0 w : World} {p b1 b2 b3 : Nat} {X : Nat → Prop} {r : Rp} {A : Option Addr} {n c : Nat} (h : Rep w0 w p b1 b2 b3 X r A n c (.slice none 0 0)) (ho : r.out = []) : Rep w w p b1 b2 b3 X r A n c (.slice none 0 0) := by
  obtain ⟨V, h3, h4⟩ := h.chgs
  have hs := h.sz
  have hl := h.lt
  exact ⟨Nat.le_refl _, by omega, h.ne, ⟨h.sub.1, fun k hk => Nat.lt_of_lt_of_le (h.sub.2 k hk) hs⟩, h.blk, h.acks, h.starts, ⟨V, h3, h4⟩, h.log, by rw [ho]; exact Vec.nil _ _ _ _ _⟩
set_option maxHeartbeats 4000000 in
set_option maxRecDepth 100000 in
theorem tick_any {w : World} {p b1 b2 b3 : Nat} {X : Nat → Prop} {r : Rp} {A : Option Addr} {n c : Nat} (h : Rep w w p b1 b2 b3 X r A n c (.slice none 0 0)) (hok : RpOk r) (ho : r.out = []) (hq : 0 ≤ r.quiet ∧ r.quiet ≤ 1000000) :
    Calls Try.prog 41 #[.pointer (some ⟨p, 0, none⟩)] w (Stood w p b1 b2 b3 X (tickR r) (fun O => O)) := by
  have H := hid h
  have BP := hid h.blk
  have HOK := hid hok
  have HQ := hid hq
  have HO := hid ho
  have HST := hid hok.stn
  have L1 := hid h.log.1
  have HN := hid (show n ≤ 64 by have h1 := hok.stn.2.2.1; have h2 := h.log.1; omega)
  clear h hok ho hq
  go_enter Try.func41, Try.ntmps41
  go_wp2_with fail
  refine (role_any H.out HOK.out.cfg.1 HST.out.1).mono ?_
  rintro e w1 ⟨rfl, k1⟩
  have K1 := hid k1
  replace H := hid (H.out.far k1)
  replace BP := hid H.out.blk
  clear k1
  by_cases hr1 : roleR r = 1
  · have hr2 : (roleR r == 1) = true := by simp [hr1]
    have HR := hid hr1
    clear hr1
    go_wp2_with fail
    clear hr2
    have U_5 : ∀ wx, Chg (fun _ => False) w1 wx → wx.cell? ⟨p, 5, none⟩ = some (.int .i64 r.s.commit) := fun wx hx => (cellAt (hx.blk BP.out (fun h => h)) 5).trans rfl
    refine wpB_start (fun wx : World => Chg (fun _ => False) w1 wx) (by kernel_rfl) ?_
    have hHeld : (fun wx : World => Chg (fun _ => False) w1 wx) _ := (Chg.refl (fun _ => False) w1).drew
    -- 0: t6 := move t0 : 30
    refine wpB_take (i := 0) (v := ?_) (get_of_drop rfl) (by kernel_rfl) (by kernel_rfl) (by kernel_rfl) (by kernel_rfl) (fun _ _ _ h => h) (Or.inl ⟨by rfl, ?_⟩) hHeld ?_
    rotate_left
    · (intro w hSw; (try dsimp only at hSw); go_simp <;> with_reducible rfl)
    try simp only [Act.put, List.setIfInBounds_toArray, List.set_cons_zero, List.set_cons_succ]
    -- 1: t7 := move t0 : 30
    refine wpB_take (i := 1) (v := ?_) (get_of_drop rfl) (by kernel_rfl) (by kernel_rfl) (by kernel_rfl) (by kernel_rfl) (fun _ _ _ h => h) (Or.inl ⟨by rfl, ?_⟩) hHeld ?_
    rotate_left
    · (intro w hSw; (try dsimp only at hSw); go_simp <;> with_reducible rfl)
    try simp only [Act.put, List.setIfInBounds_toArray, List.set_cons_zero, List.set_cons_succ]
    -- 3: t9 := move t0 : 30
    refine wpB_take (i := 3) (v := ?_) (get_of_drop rfl) (by kernel_rfl) (by kernel_rfl) (by kernel_rfl) (by kernel_rfl) (fun _ _ _ h => h) (Or.inl ⟨by rfl, ?_⟩) hHeld ?_
    rotate_left
    · (intro w hSw; (try dsimp only at hSw); go_simp <;> with_reducible rfl)
    try simp only [Act.put, List.setIfInBounds_toArray, List.set_cons_zero, List.set_cons_succ]
    -- 4: t10 := nilCheck t9 : 0
    refine wpB_take (i := 4) (v := ?_) (get_of_drop rfl) (by kernel_rfl) (by kernel_rfl) (by kernel_rfl) (by kernel_rfl) (fun _ _ _ h => h) (Or.inl ⟨by rfl, ?_⟩) hHeld ?_
    rotate_left
    · (intro w hSw; (try dsimp only at hSw); go_simp <;> with_reducible rfl)
    try simp only [Act.put, List.setIfInBounds_toArray, List.set_cons_zero, List.set_cons_succ]
    -- 5: t11 := fieldAddr 100 t10 1 : 0
    refine wpB_take (i := 5) (v := ?_) (get_of_drop rfl) (by kernel_rfl) (by kernel_rfl) (by kernel_rfl) (by kernel_rfl) (fun _ _ _ h => h) (Or.inl ⟨by rfl, ?_⟩) hHeld ?_
    rotate_left
    · (intro w hSw; (try dsimp only at hSw); go_simp <;> with_reducible rfl)
    try simp only [Act.put, List.setIfInBounds_toArray, List.set_cons_zero, List.set_cons_succ]
    -- 6: t12 := fieldAddr 26 t11 2 : 0
    refine wpB_take (i := 6) (v := ?_) (get_of_drop rfl) (by kernel_rfl) (by kernel_rfl) (by kernel_rfl) (by kernel_rfl) (fun _ _ _ h => h) (Or.inl ⟨by rfl, ?_⟩) hHeld ?_
    rotate_left
    · (intro w hSw; (try dsimp only at hSw); go_simp <;> with_reducible rfl)
    try simp only [Act.put, List.setIfInBounds_toArray, List.set_cons_zero, List.set_cons_succ]
    -- 7: t13 := load 3 t12 : 3
    refine wpB_take (i := 7) (v := ?_) (get_of_drop rfl) (by kernel_rfl) (by kernel_rfl) (by kernel_rfl) (by kernel_rfl) (fun _ _ _ h => h) (Or.inl ⟨by rfl, ?_⟩) hHeld ?_
    rotate_left
    · (intro w hSw; (try dsimp only at hSw); go_simp <;> with_reducible rfl)
    try simp only [Act.put, List.setIfInBounds_toArray, List.set_cons_zero, List.set_cons_succ]
    -- 2: t8 := CALL fn76(t7) : 3
    refine wpB_act (i := 2) (by kernel_rfl) (get_of_drop rfl) (fun K hK => ?_)
    go_simp
    refine (length_any (H.out.far hHeld) HN.out).mono ?_
    rintro e' wy ⟨rfl, rfl⟩
    refine hK.out _ _ ?_ (fun hHeld2 => ?_)
    · first | assumption | exact Chg.alloc hHeld _
    clear hHeld hK K
    have hHeld := hHeld2
    clear hHeld2
    try simp only [Act.put, List.setIfInBounds_toArray, List.set_cons_zero, List.set_cons_succ]
    -- 8: t14 := build 41 [⟨0, #i64:3⟩, ⟨4, t8⟩, ⟨5, t13⟩] : 41
    refine wpB_take (i := 8) (v := ?_) (get_of_drop rfl) (by kernel_rfl) (by kernel_rfl) (by kernel_rfl) (by kernel_rfl) (fun _ _ _ h => h) (Or.inl ⟨by rfl, ?_⟩) hHeld ?_
    rotate_left
    · (intro w hSw; (try dsimp only at hSw); go_simp <;> with_reducible rfl)
    try simp only [Act.put, List.setIfInBounds_toArray, List.set_cons_zero, List.set_cons_succ]
    -- 9: t15 := CALL fn78(t6, t14) : 0 (BARRIER)
    refine wpB_bar (i := 9) (by kernel_rfl) (get_of_drop rfl) (by kernel_rfl) (fun K hK => ?_)
    go_simp
    refine (say_any (m := ⟨3, 0, 0, 0, (n : Int), r.s.commit, 0, []⟩) (R := fun _ => False) (H.out.far hHeld) HOK.out.cfg.1 (at_nil_ _ _ _) (fun _ h => h.elim) (by decide) (by intro e he; cases he) ⟨show NumW 3 by decide, numW_of (by have := HN.out; show _ ≤ (n : Int) ∧ (n : Int) ≤ _; omega), numW_of (by have := HST.out; show _ ≤ r.s.commit ∧ r.s.commit ≤ _; omega), show NumW 0 by decide⟩ ⟨numW_of (by have := HST.out; omega), numW_of (by have := HOK.out.cfg; omega)⟩ (by rw [HO.out]; decide)).mono ?_
    rintro e' w2 ⟨O', rfl, h2, ho2, k2⟩
    have H2 := hid h2
    have HO2 := hid ho2
    have K2 := hid k2
    clear h2 ho2 k2
    refine hK.out _ _ (fun _ : World => True) ?_
    clear hHeld hK K
    have hHeld := trivial
    try simp only [Act.put, List.setIfInBounds_toArray, List.set_cons_zero, List.set_cons_succ]
    refine wpB_done (by kernel_rfl) ?_ _
    clear U_5 hHeld
    go_wp2_with fail
    refine (sent_any H2.out).mono ?_
    rintro e w3 ⟨rfl, h3, hv3, k3⟩
    have H3 := hid h3
    have HV3 := hid hv3
    have K3 := hid k3
    clear h3 hv3 k3
    go_wp2_with fail
    go_ret
    have e1 : tickR r = sayR r ⟨3, 0, 0, 0, (n : Int), r.s.commit, 0, []⟩ := by unfold tickR; rw [if_pos HR.out, L1.out]
    rw [e1]
    refine ⟨O', rfl, ⟨A, n, c, H3.out⟩, HV3.out, no_own ?_⟩
    exact ((K1.out.drew.mono (S' := fun j => M4 p b1 b2 b3 j ∨ (Value.slice none 0 0).ownBlock = some j) (fun _ h _ => h.elim)).trans K2.out (fun j hj _ => by rcases hj with h | h; exact .inl (.inl h); exact .inr h)).trans K3.out (fun j hj _ => .inl (.inl hj))
  · have hr2 : (roleR r == 1) = false := by simp [hr1]
    have HR := hid (show ¬ roleR r = 1 from hr1)
    clear hr1
    have hq0 := HQ.out.1
    have hq1 := HQ.out.2
    have P_13 : w1.cell? ⟨p, 13, none⟩ = some (.int .i64 r.quiet) := (cellAt BP.out 13).trans rfl
    have F_13 : w1.frozen? ⟨p, 13, none⟩ = false := freeAt BP.out 13
    go_wp2_with fail
    obtain ⟨w2, hw2⟩ : ∃ q_, q_ = w1.setCell ⟨p, 13, none⟩ (.int .i64 (r.quiet + 1)) := ⟨_, rfl⟩
    rw [← hw2]
    have K2 := hid (show Chg (fun k => k = p) w1 w2 by rw [hw2]; exact (Chg.refl (fun k => k = p) w1).set (fun _ => rfl) _)
    obtain ⟨r2, hr3⟩ : ∃ q_, q_ = { r with quiet := r.quiet + 1 } := ⟨_, rfl⟩
    have HR2 := hid hr3
    have H2 := hid (show Rep w w2 p b1 b2 b3 X r2 A n c (.slice none 0 0) by rw [hr3]; exact H.out.put (r' := { r with quiet := r.quiet + 1 }) K2.out (by rw [hw2]; exact blk_set BP.out 13 _) rfl rfl rfl rfl rfl)
    have HOK2 := hid (show RpOk r2 by rw [hr3]; exact HOK.out.qt _)
    have HO2 := hid (show r2.out = [] by rw [hr3]; exact HO.out)
    have HV2 := hid (show r2.s.view = r.s.view by rw [hr3])
    have BP2 := hid (show w2.heap[p]? = some (.cells #[.int .i64 r.n, .int .i64 r.id, .int .i64 r.tm, .int .i64 r.s.view, .int .i64 r.s.normal, .int .i64 r.s.commit, .int .i64 r.s.active, .slice A n c, .bool r.ch, .map (some b1), .map (some b2), .map (some b3), .bool r.said, .int .i64 (r.quiet + 1), .slice none 0 0] 100 (0, 0)) by rw [hw2]; exact blk_set BP.out 13 _)
    clear hr2 hw2 hr3 P_13 F_13
    have U_2 : ∀ wx, Chg (fun _ => False) w2 wx → wx.cell? ⟨p, 2, none⟩ = some (.int .i64 r.tm) := fun wx hx => (cellAt (hx.blk BP2.out (fun h => h)) 2).trans rfl
    have U_3 : ∀ wx, Chg (fun _ => False) w2 wx → wx.cell? ⟨p, 3, none⟩ = some (.int .i64 r.s.view) := fun wx hx => (cellAt (hx.blk BP2.out (fun h => h)) 3).trans rfl
    have U_13 : ∀ wx, Chg (fun _ => False) w2 wx → wx.cell? ⟨p, 13, none⟩ = some (.int .i64 (r.quiet + 1)) := fun wx hx => (cellAt (hx.blk BP2.out (fun h => h)) 13).trans rfl
    by_cases hc1 : r.tm ≤ r.quiet + 1
    case neg =>
      have hc2 : r.quiet + 1 < r.tm := by omega
      have hc5 : decide (r.tm ≤ r.quiet + 1) = false := by simp; omega
      have HE := hid (show tickR r = r2 by unfold tickR; rw [if_neg HR.out, if_neg (fun h => hc1 h.1), HR2.out])
      clear hc1
      refine wpB_start (fun wx : World => Chg (fun _ => False) w2 wx) (by kernel_rfl) ?_
      have hHeld : (fun wx : World => Chg (fun _ => False) w2 wx) _ := (Chg.refl (fun _ => False) w2).drew
      -- 0: t25 := move t0 : 30
      refine wpB_take (i := 0) (v := ?_) (get_of_drop rfl) (by kernel_rfl) (by kernel_rfl) (by kernel_rfl) (by kernel_rfl) (fun _ _ _ h => h) (Or.inl ⟨by rfl, ?_⟩) hHeld ?_
      rotate_left
      · (intro w hSw; (try dsimp only at hSw); go_simp <;> with_reducible rfl)
      try simp only [Act.put, List.setIfInBounds_toArray, List.set_cons_zero, List.set_cons_succ]
      -- 1: t26 := nilCheck t25 : 0
      refine wpB_take (i := 1) (v := ?_) (get_of_drop rfl) (by kernel_rfl) (by kernel_rfl) (by kernel_rfl) (by kernel_rfl) (fun _ _ _ h => h) (Or.inl ⟨by rfl, ?_⟩) hHeld ?_
      rotate_left
      · (intro w hSw; (try dsimp only at hSw); go_simp <;> with_reducible rfl)
      try simp only [Act.put, List.setIfInBounds_toArray, List.set_cons_zero, List.set_cons_succ]
      -- 2: t27 := fieldAddr 100 t26 7 : 0
      refine wpB_take (i := 2) (v := ?_) (get_of_drop rfl) (by kernel_rfl) (by kernel_rfl) (by kernel_rfl) (by kernel_rfl) (fun _ _ _ h => h) (Or.inl ⟨by rfl, ?_⟩) hHeld ?_
      rotate_left
      · (intro w hSw; (try dsimp only at hSw); go_simp <;> with_reducible rfl)
      try simp only [Act.put, List.setIfInBounds_toArray, List.set_cons_zero, List.set_cons_succ]
      -- 3: t28 := load 3 t27 : 3
      refine wpB_take (i := 3) (v := ?_) (get_of_drop rfl) (by kernel_rfl) (by kernel_rfl) (by kernel_rfl) (by kernel_rfl) (fun _ _ _ h => h) (Or.inl ⟨by rfl, ?_⟩) hHeld ?_
      rotate_left
      · (intro w hSw; (try dsimp only at hSw); go_simp <;> with_reducible rfl)
      try simp only [Act.put, List.setIfInBounds_toArray, List.set_cons_zero, List.set_cons_succ]
      -- 4: t29 := move t0 : 30
      refine wpB_take (i := 4) (v := ?_) (get_of_drop rfl) (by kernel_rfl) (by kernel_rfl) (by kernel_rfl) (by kernel_rfl) (fun _ _ _ h => h) (Or.inl ⟨by rfl, ?_⟩) hHeld ?_
      rotate_left
      · (intro w hSw; (try dsimp only at hSw); go_simp <;> with_reducible rfl)
      try simp only [Act.put, List.setIfInBounds_toArray, List.set_cons_zero, List.set_cons_succ]
      -- 5: t30 := nilCheck t29 : 0
      refine wpB_take (i := 5) (v := ?_) (get_of_drop rfl) (by kernel_rfl) (by kernel_rfl) (by kernel_rfl) (by kernel_rfl) (fun _ _ _ h => h) (Or.inl ⟨by rfl, ?_⟩) hHeld ?_
      rotate_left
      · (intro w hSw; (try dsimp only at hSw); go_simp <;> with_reducible rfl)
      try simp only [Act.put, List.setIfInBounds_toArray, List.set_cons_zero, List.set_cons_succ]
      -- 6: t31 := fieldAddr 100 t30 0 : 0
      refine wpB_take (i := 6) (v := ?_) (get_of_drop rfl) (by kernel_rfl) (by kernel_rfl) (by kernel_rfl) (by kernel_rfl) (fun _ _ _ h => h) (Or.inl ⟨by rfl, ?_⟩) hHeld ?_
      rotate_left
      · (intro w hSw; (try dsimp only at hSw); go_simp <;> with_reducible rfl)
      try simp only [Act.put, List.setIfInBounds_toArray, List.set_cons_zero, List.set_cons_succ]
      -- 7: t32 := fieldAddr 23 t31 2 : 0
      refine wpB_take (i := 7) (v := ?_) (get_of_drop rfl) (by kernel_rfl) (by kernel_rfl) (by kernel_rfl) (by kernel_rfl) (fun _ _ _ h => h) (Or.inl ⟨by rfl, ?_⟩) hHeld ?_
      rotate_left
      · (intro w hSw; (try dsimp only at hSw); go_simp <;> with_reducible rfl)
      try simp only [Act.put, List.setIfInBounds_toArray, List.set_cons_zero, List.set_cons_succ]
      -- 8: t33 := load 3 t32 : 3
      refine wpB_take (i := 8) (v := ?_) (get_of_drop rfl) (by kernel_rfl) (by kernel_rfl) (by kernel_rfl) (by kernel_rfl) (fun _ _ _ h => h) (Or.inl ⟨by rfl, ?_⟩) hHeld ?_
      rotate_left
      · (intro w hSw; (try dsimp only at hSw); go_simp <;> with_reducible rfl)
      try simp only [Act.put, List.setIfInBounds_toArray, List.set_cons_zero, List.set_cons_succ]
      -- 9: t34 := binOp BinOp.geq 3 t28 t33 3 : 4
      refine wpB_take (i := 9) (v := ?_) (get_of_drop rfl) (by kernel_rfl) (by kernel_rfl) (by kernel_rfl) (by kernel_rfl) (fun _ _ _ h => h) (Or.inl ⟨by rfl, ?_⟩) hHeld ?_
      rotate_left
      · (intro w hSw; (try dsimp only at hSw); go_simp <;> with_reducible rfl)
      try simp only [Act.put, List.setIfInBounds_toArray, List.set_cons_zero, List.set_cons_succ]
      -- 10: t35 := move t34 : 4
      refine wpB_take (i := 10) (v := ?_) (get_of_drop rfl) (by kernel_rfl) (by kernel_rfl) (by kernel_rfl) (by kernel_rfl) (fun _ _ _ h => h) (Or.inl ⟨by rfl, ?_⟩) hHeld ?_
      rotate_left
      · (intro w hSw; (try dsimp only at hSw); go_simp <;> with_reducible rfl)
      try simp only [Act.put, List.setIfInBounds_toArray, List.set_cons_zero, List.set_cons_succ]
      -- 11: t36 := move t0 : 30   [if ⟨10, true⟩]
      refine wpB_take (i := 11) (v := undef) (get_of_drop rfl) (by kernel_rfl) (by kernel_rfl) (by kernel_rfl) (by kernel_rfl) (fun _ _ _ h => h) (Or.inr ⟨by rfl, rfl⟩) hHeld ?_
      try simp only [Act.put, List.setIfInBounds_toArray, List.set_cons_zero, List.set_cons_succ]
      -- 12: t37 := nilCheck t36 : 0   [if ⟨10, true⟩]
      refine wpB_take (i := 12) (v := undef) (get_of_drop rfl) (by kernel_rfl) (by kernel_rfl) (by kernel_rfl) (by kernel_rfl) (fun _ _ _ h => h) (Or.inr ⟨by rfl, rfl⟩) hHeld ?_
      try simp only [Act.put, List.setIfInBounds_toArray, List.set_cons_zero, List.set_cons_succ]
      -- 13: t38 := fieldAddr 100 t37 1 : 0   [if ⟨10, true⟩]
      refine wpB_take (i := 13) (v := undef) (get_of_drop rfl) (by kernel_rfl) (by kernel_rfl) (by kernel_rfl) (by kernel_rfl) (fun _ _ _ h => h) (Or.inr ⟨by rfl, rfl⟩) hHeld ?_
      try simp only [Act.put, List.setIfInBounds_toArray, List.set_cons_zero, List.set_cons_succ]
      -- 14: t39 := fieldAddr 26 t38 0 : 0   [if ⟨10, true⟩]
      refine wpB_take (i := 14) (v := undef) (get_of_drop rfl) (by kernel_rfl) (by kernel_rfl) (by kernel_rfl) (by kernel_rfl) (fun _ _ _ h => h) (Or.inr ⟨by rfl, rfl⟩) hHeld ?_
      try simp only [Act.put, List.setIfInBounds_toArray, List.set_cons_zero, List.set_cons_succ]
      -- 15: t40 := load 3 t39 : 3   [if ⟨10, true⟩]
      refine wpB_take (i := 15) (v := undef) (get_of_drop rfl) (by kernel_rfl) (by kernel_rfl) (by kernel_rfl) (by kernel_rfl) (fun _ _ _ h => h) (Or.inr ⟨by rfl, rfl⟩) hHeld ?_
      try simp only [Act.put, List.setIfInBounds_toArray, List.set_cons_zero, List.set_cons_succ]
      -- 16: t41 := binOp BinOp.lss 3 t40 #i64:1099511627776 3 : 4   [if ⟨10, true⟩]
      refine wpB_take (i := 16) (v := undef) (get_of_drop rfl) (by kernel_rfl) (by kernel_rfl) (by kernel_rfl) (by kernel_rfl) (fun _ _ _ h => h) (Or.inr ⟨by rfl, rfl⟩) hHeld ?_
      try simp only [Act.put, List.setIfInBounds_toArray, List.set_cons_zero, List.set_cons_succ]
      -- 17: t42 := pick t35 t41 #false : 4
      refine wpB_take (i := 17) (v := ?_) (get_of_drop rfl) (by kernel_rfl) (by kernel_rfl) (by kernel_rfl) (by kernel_rfl) (fun _ _ _ h => h) (Or.inl ⟨by rfl, ?_⟩) hHeld ?_
      rotate_left
      · (intro w hSw; (try dsimp only at hSw); go_simp <;> with_reducible rfl)
      try simp only [Act.put, List.setIfInBounds_toArray, List.set_cons_zero, List.set_cons_succ]
      refine wpB_done (by kernel_rfl) ?_ _
      clear U_2 U_3 U_13 hHeld
      go_wp2_with fail
      refine (sent_any (H2.out.far (Chg.refl (fun _ => False) w2).drew)).mono ?_
      rintro e w3 ⟨rfl, h3, hv3, k3⟩
      have H3 := hid h3
      have HV3 := hid hv3
      have K3 := hid k3
      clear h3 hv3 k3
      go_wp2_with fail
      go_ret
      rw [HE.out]
      exact ⟨_, rfl, ⟨A, n, c, H3.out⟩, HV3.out, ((K1.out.mono (S' := M4 p b1 b2 b3) (fun _ h _ => h.elim)).trans K2.out.drew (fun j hj _ => .inl hj)).trans K3.out (fun j hj _ => .inl hj)⟩
    have HC1 := hid hc1
    have hc1b : ¬ r.quiet + 1 < r.tm := by omega
    by_cases hc3 : r.s.view < 1099511627776
    case neg =>
      have hc4 : 1099511627776 ≤ r.s.view := by omega
      have hc5 : decide (r.s.view < 1099511627776) = false := by simp; omega
      have HE := hid (show tickR r = r2 by unfold tickR; rw [if_neg HR.out, if_neg (fun h => hc3 h.2), HR2.out])
      clear hc3
      refine wpB_start (fun wx : World => Chg (fun _ => False) w2 wx) (by kernel_rfl) ?_
      have hHeld : (fun wx : World => Chg (fun _ => False) w2 wx) _ := (Chg.refl (fun _ => False) w2).drew
      -- 0: t25 := move t0 : 30
      refine wpB_take (i := 0) (v := ?_) (get_of_drop rfl) (by kernel_rfl) (by kernel_rfl) (by kernel_rfl) (by kernel_rfl) (fun _ _ _ h => h) (Or.inl ⟨by rfl, ?_⟩) hHeld ?_
      rotate_left
      · (intro w hSw; (try dsimp only at hSw); go_simp <;> with_reducible rfl)
      try simp only [Act.put, List.setIfInBounds_toArray, List.set_cons_zero, List.set_cons_succ]
      -- 1: t26 := nilCheck t25 : 0
      refine wpB_take (i := 1) (v := ?_) (get_of_drop rfl) (by kernel_rfl) (by kernel_rfl) (by kernel_rfl) (by kernel_rfl) (fun _ _ _ h => h) (Or.inl ⟨by rfl, ?_⟩) hHeld ?_
      rotate_left
      · (intro w hSw; (try dsimp only at hSw); go_simp <;> with_reducible rfl)
      try simp only [Act.put, List.setIfInBounds_toArray, List.set_cons_zero, List.set_cons_succ]
      -- 2: t27 := fieldAddr 100 t26 7 : 0
      refine wpB_take (i := 2) (v := ?_) (get_of_drop rfl) (by kernel_rfl) (by kernel_rfl) (by kernel_rfl) (by kernel_rfl) (fun _ _ _ h => h) (Or.inl ⟨by rfl, ?_⟩) hHeld ?_
      rotate_left
      · (intro w hSw; (try dsimp only at hSw); go_simp <;> with_reducible rfl)
      try simp only [Act.put, List.setIfInBounds_toArray, List.set_cons_zero, List.set_cons_succ]
      -- 3: t28 := load 3 t27 : 3
      refine wpB_take (i := 3) (v := ?_) (get_of_drop rfl) (by kernel_rfl) (by kernel_rfl) (by kernel_rfl) (by kernel_rfl) (fun _ _ _ h => h) (Or.inl ⟨by rfl, ?_⟩) hHeld ?_
      rotate_left
      · (intro w hSw; (try dsimp only at hSw); go_simp <;> with_reducible rfl)
      try simp only [Act.put, List.setIfInBounds_toArray, List.set_cons_zero, List.set_cons_succ]
      -- 4: t29 := move t0 : 30
      refine wpB_take (i := 4) (v := ?_) (get_of_drop rfl) (by kernel_rfl) (by kernel_rfl) (by kernel_rfl) (by kernel_rfl) (fun _ _ _ h => h) (Or.inl ⟨by rfl, ?_⟩) hHeld ?_
      rotate_left
      · (intro w hSw; (try dsimp only at hSw); go_simp <;> with_reducible rfl)
      try simp only [Act.put, List.setIfInBounds_toArray, List.set_cons_zero, List.set_cons_succ]
      -- 5: t30 := nilCheck t29 : 0
      refine wpB_take (i := 5) (v := ?_) (get_of_drop rfl) (by kernel_rfl) (by kernel_rfl) (by kernel_rfl) (by kernel_rfl) (fun _ _ _ h => h) (Or.inl ⟨by rfl, ?_⟩) hHeld ?_
      rotate_left
      · (intro w hSw; (try dsimp only at hSw); go_simp <;> with_reducible rfl)
      try simp only [Act.put, List.setIfInBounds_toArray, List.set_cons_zero, List.set_cons_succ]
      -- 6: t31 := fieldAddr 100 t30 0 : 0
      refine wpB_take (i := 6) (v := ?_) (get_of_drop rfl) (by kernel_rfl) (by kernel_rfl) (by kernel_rfl) (by kernel_rfl) (fun _ _ _ h => h) (Or.inl ⟨by rfl, ?_⟩) hHeld ?_
      rotate_left
      · (intro w hSw; (try dsimp only at hSw); go_simp <;> with_reducible rfl)
      try simp only [Act.put, List.setIfInBounds_toArray, List.set_cons_zero, List.set_cons_succ]
      -- 7: t32 := fieldAddr 23 t31 2 : 0
      refine wpB_take (i := 7) (v := ?_) (get_of_drop rfl) (by kernel_rfl) (by kernel_rfl) (by kernel_rfl) (by kernel_rfl) (fun _ _ _ h => h) (Or.inl ⟨by rfl, ?_⟩) hHeld ?_
      rotate_left
      · (intro w hSw; (try dsimp only at hSw); go_simp <;> with_reducible rfl)
      try simp only [Act.put, List.setIfInBounds_toArray, List.set_cons_zero, List.set_cons_succ]
      -- 8: t33 := load 3 t32 : 3
      refine wpB_take (i := 8) (v := ?_) (get_of_drop rfl) (by kernel_rfl) (by kernel_rfl) (by kernel_rfl) (by kernel_rfl) (fun _ _ _ h => h) (Or.inl ⟨by rfl, ?_⟩) hHeld ?_
      rotate_left
      · (intro w hSw; (try dsimp only at hSw); go_simp <;> with_reducible rfl)
      try simp only [Act.put, List.setIfInBounds_toArray, List.set_cons_zero, List.set_cons_succ]
      -- 9: t34 := binOp BinOp.geq 3 t28 t33 3 : 4
      refine wpB_take (i := 9) (v := ?_) (get_of_drop rfl) (by kernel_rfl) (by kernel_rfl) (by kernel_rfl) (by kernel_rfl) (fun _ _ _ h => h) (Or.inl ⟨by rfl, ?_⟩) hHeld ?_
      rotate_left
      · (intro w hSw; (try dsimp only at hSw); go_simp <;> with_reducible rfl)
      try simp only [Act.put, List.setIfInBounds_toArray, List.set_cons_zero, List.set_cons_succ]
      -- 10: t35 := move t34 : 4
      refine wpB_take (i := 10) (v := ?_) (get_of_drop rfl) (by kernel_rfl) (by kernel_rfl) (by kernel_rfl) (by kernel_rfl) (fun _ _ _ h => h) (Or.inl ⟨by rfl, ?_⟩) hHeld ?_
      rotate_left
      · (intro w hSw; (try dsimp only at hSw); go_simp <;> with_reducible rfl)
      try simp only [Act.put, List.setIfInBounds_toArray, List.set_cons_zero, List.set_cons_succ]
      -- 11: t36 := move t0 : 30   [if ⟨10, true⟩]
      refine wpB_take (i := 11) (v := ?_) (get_of_drop rfl) (by kernel_rfl) (by kernel_rfl) (by kernel_rfl) (by kernel_rfl) (fun _ _ _ h => h) (Or.inl ⟨by rfl, ?_⟩) hHeld ?_
      rotate_left
      · (intro w hSw; (try dsimp only at hSw); go_simp <;> with_reducible rfl)
      try simp only [Act.put, List.setIfInBounds_toArray, List.set_cons_zero, List.set_cons_succ]
      -- 12: t37 := nilCheck t36 : 0   [if ⟨10, true⟩]
      refine wpB_take (i := 12) (v := ?_) (get_of_drop rfl) (by kernel_rfl) (by kernel_rfl) (by kernel_rfl) (by kernel_rfl) (fun _ _ _ h => h) (Or.inl ⟨by rfl, ?_⟩) hHeld ?_
      rotate_left
      · (intro w hSw; (try dsimp only at hSw); go_simp <;> with_reducible rfl)
      try simp only [Act.put, List.setIfInBounds_toArray, List.set_cons_zero, List.set_cons_succ]
      -- 13: t38 := fieldAddr 100 t37 1 : 0   [if ⟨10, true⟩]
      refine wpB_take (i := 13) (v := ?_) (get_of_drop rfl) (by kernel_rfl) (by kernel_rfl) (by kernel_rfl) (by kernel_rfl) (fun _ _ _ h => h) (Or.inl ⟨by rfl, ?_⟩) hHeld ?_
      rotate_left
      · (intro w hSw; (try dsimp only at hSw); go_simp <;> with_reducible rfl)
      try simp only [Act.put, List.setIfInBounds_toArray, List.set_cons_zero, List.set_cons_succ]
      -- 14: t39 := fieldAddr 26 t38 0 : 0   [if ⟨10, true⟩]
      refine wpB_take (i := 14) (v := ?_) (get_of_drop rfl) (by kernel_rfl) (by kernel_rfl) (by kernel_rfl) (by kernel_rfl) (fun _ _ _ h => h) (Or.inl ⟨by rfl, ?_⟩) hHeld ?_
      rotate_left
      · (intro w hSw; (try dsimp only at hSw); go_simp <;> with_reducible rfl)
      try simp only [Act.put, List.setIfInBounds_toArray, List.set_cons_zero, List.set_cons_succ]
      -- 15: t40 := load 3 t39 : 3   [if ⟨10, true⟩]
      refine wpB_take (i := 15) (v := ?_) (get_of_drop rfl) (by kernel_rfl) (by kernel_rfl) (by kernel_rfl) (by kernel_rfl) (fun _ _ _ h => h) (Or.inl ⟨by rfl, ?_⟩) hHeld ?_
      rotate_left
      · (intro w hSw; (try dsimp only at hSw); go_simp <;> with_reducible rfl)
      try simp only [Act.put, List.setIfInBounds_toArray, List.set_cons_zero, List.set_cons_succ]
      -- 16: t41 := binOp BinOp.lss 3 t40 #i64:1099511627776 3 : 4   [if ⟨10, true⟩]
      refine wpB_take (i := 16) (v := ?_) (get_of_drop rfl) (by kernel_rfl) (by kernel_rfl) (by kernel_rfl) (by kernel_rfl) (fun _ _ _ h => h) (Or.inl ⟨by rfl, ?_⟩) hHeld ?_
      rotate_left
      · (intro w hSw; (try dsimp only at hSw); go_simp <;> with_reducible rfl)
      try simp only [Act.put, List.setIfInBounds_toArray, List.set_cons_zero, List.set_cons_succ]
      -- 17: t42 := pick t35 t41 #false : 4
      refine wpB_take (i := 17) (v := ?_) (get_of_drop rfl) (by kernel_rfl) (by kernel_rfl) (by kernel_rfl) (by kernel_rfl) (fun _ _ _ h => h) (Or.inl ⟨by rfl, ?_⟩) hHeld ?_
      rotate_left
      · (intro w hSw; (try dsimp only at hSw); go_simp <;> with_reducible rfl)
      try simp only [Act.put, List.setIfInBounds_toArray, List.set_cons_zero, List.set_cons_succ]
      refine wpB_done (by kernel_rfl) ?_ _
      clear U_2 U_3 U_13 hHeld
      go_wp2_with fail
      refine (sent_any (H2.out.far (Chg.refl (fun _ => False) w2).drew)).mono ?_
      rintro e w3 ⟨rfl, h3, hv3, k3⟩
      have H3 := hid h3
      have HV3 := hid hv3
      have K3 := hid k3
      clear h3 hv3 k3
      go_wp2_with fail
      go_ret
      rw [HE.out]
      exact ⟨_, rfl, ⟨A, n, c, H3.out⟩, HV3.out, ((K1.out.mono (S' := M4 p b1 b2 b3) (fun _ h _ => h.elim)).trans K2.out.drew (fun j hj _ => .inl hj)).trans K3.out (fun j hj _ => .inl hj)⟩
    have HC3 := hid hc3
    have HE := hid (show tickR r = beginR r2 (r.s.view + 1) by unfold tickR; rw [if_neg HR.out, if_pos ⟨HC1.out, HC3.out⟩, HR2.out])
    have hv0 : 0 ≤ r.s.view := HST.out.1.1
    refine wpB_start (fun wx : World => Chg (fun _ => False) w2 wx) (by kernel_rfl) ?_
    have hHeld : (fun wx : World => Chg (fun _ => False) w2 wx) _ := (Chg.refl (fun _ => False) w2).drew
    -- 0: t25 := move t0 : 30
    refine wpB_take (i := 0) (v := ?_) (get_of_drop rfl) (by kernel_rfl) (by kernel_rfl) (by kernel_rfl) (by kernel_rfl) (fun _ _ _ h => h) (Or.inl ⟨by rfl, ?_⟩) hHeld ?_
    rotate_left
    · (intro w hSw; (try dsimp only at hSw); go_simp <;> with_reducible rfl)
    try simp only [Act.put, List.setIfInBounds_toArray, List.set_cons_zero, List.set_cons_succ]
    -- 1: t26 := nilCheck t25 : 0
    refine wpB_take (i := 1) (v := ?_) (get_of_drop rfl) (by kernel_rfl) (by kernel_rfl) (by kernel_rfl) (by kernel_rfl) (fun _ _ _ h => h) (Or.inl ⟨by rfl, ?_⟩) hHeld ?_
    rotate_left
    · (intro w hSw; (try dsimp only at hSw); go_simp <;> with_reducible rfl)
    try simp only [Act.put, List.setIfInBounds_toArray, List.set_cons_zero, List.set_cons_succ]
    -- 2: t27 := fieldAddr 100 t26 7 : 0
    refine wpB_take (i := 2) (v := ?_) (get_of_drop rfl) (by kernel_rfl) (by kernel_rfl) (by kernel_rfl) (by kernel_rfl) (fun _ _ _ h => h) (Or.inl ⟨by rfl, ?_⟩) hHeld ?_
    rotate_left
    · (intro w hSw; (try dsimp only at hSw); go_simp <;> with_reducible rfl)
    try simp only [Act.put, List.setIfInBounds_toArray, List.set_cons_zero, List.set_cons_succ]
    -- 3: t28 := load 3 t27 : 3
    refine wpB_take (i := 3) (v := ?_) (get_of_drop rfl) (by kernel_rfl) (by kernel_rfl) (by kernel_rfl) (by kernel_rfl) (fun _ _ _ h => h) (Or.inl ⟨by rfl, ?_⟩) hHeld ?_
    rotate_left
    · (intro w hSw; (try dsimp only at hSw); go_simp <;> with_reducible rfl)
    try simp only [Act.put, List.setIfInBounds_toArray, List.set_cons_zero, List.set_cons_succ]
    -- 4: t29 := move t0 : 30
    refine wpB_take (i := 4) (v := ?_) (get_of_drop rfl) (by kernel_rfl) (by kernel_rfl) (by kernel_rfl) (by kernel_rfl) (fun _ _ _ h => h) (Or.inl ⟨by rfl, ?_⟩) hHeld ?_
    rotate_left
    · (intro w hSw; (try dsimp only at hSw); go_simp <;> with_reducible rfl)
    try simp only [Act.put, List.setIfInBounds_toArray, List.set_cons_zero, List.set_cons_succ]
    -- 5: t30 := nilCheck t29 : 0
    refine wpB_take (i := 5) (v := ?_) (get_of_drop rfl) (by kernel_rfl) (by kernel_rfl) (by kernel_rfl) (by kernel_rfl) (fun _ _ _ h => h) (Or.inl ⟨by rfl, ?_⟩) hHeld ?_
    rotate_left
    · (intro w hSw; (try dsimp only at hSw); go_simp <;> with_reducible rfl)
    try simp only [Act.put, List.setIfInBounds_toArray, List.set_cons_zero, List.set_cons_succ]
    -- 6: t31 := fieldAddr 100 t30 0 : 0
    refine wpB_take (i := 6) (v := ?_) (get_of_drop rfl) (by kernel_rfl) (by kernel_rfl) (by kernel_rfl) (by kernel_rfl) (fun _ _ _ h => h) (Or.inl ⟨by rfl, ?_⟩) hHeld ?_
    rotate_left
    · (intro w hSw; (try dsimp only at hSw); go_simp <;> with_reducible rfl)
    try simp only [Act.put, List.setIfInBounds_toArray, List.set_cons_zero, List.set_cons_succ]
    -- 7: t32 := fieldAddr 23 t31 2 : 0
    refine wpB_take (i := 7) (v := ?_) (get_of_drop rfl) (by kernel_rfl) (by kernel_rfl) (by kernel_rfl) (by kernel_rfl) (fun _ _ _ h => h) (Or.inl ⟨by rfl, ?_⟩) hHeld ?_
    rotate_left
    · (intro w hSw; (try dsimp only at hSw); go_simp <;> with_reducible rfl)
    try simp only [Act.put, List.setIfInBounds_toArray, List.set_cons_zero, List.set_cons_succ]
    -- 8: t33 := load 3 t32 : 3
    refine wpB_take (i := 8) (v := ?_) (get_of_drop rfl) (by kernel_rfl) (by kernel_rfl) (by kernel_rfl) (by kernel_rfl) (fun _ _ _ h => h) (Or.inl ⟨by rfl, ?_⟩) hHeld ?_
    rotate_left
    · (intro w hSw; (try dsimp only at hSw); go_simp <;> with_reducible rfl)
    try simp only [Act.put, List.setIfInBounds_toArray, List.set_cons_zero, List.set_cons_succ]
    -- 9: t34 := binOp BinOp.geq 3 t28 t33 3 : 4
    refine wpB_take (i := 9) (v := ?_) (get_of_drop rfl) (by kernel_rfl) (by kernel_rfl) (by kernel_rfl) (by kernel_rfl) (fun _ _ _ h => h) (Or.inl ⟨by rfl, ?_⟩) hHeld ?_
    rotate_left
    · (intro w hSw; (try dsimp only at hSw); go_simp <;> with_reducible rfl)
    try simp only [Act.put, List.setIfInBounds_toArray, List.set_cons_zero, List.set_cons_succ]
    -- 10: t35 := move t34 : 4
    refine wpB_take (i := 10) (v := ?_) (get_of_drop rfl) (by kernel_rfl) (by kernel_rfl) (by kernel_rfl) (by kernel_rfl) (fun _ _ _ h => h) (Or.inl ⟨by rfl, ?_⟩) hHeld ?_
    rotate_left
    · (intro w hSw; (try dsimp only at hSw); go_simp <;> with_reducible rfl)
    try simp only [Act.put, List.setIfInBounds_toArray, List.set_cons_zero, List.set_cons_succ]
    -- 11: t36 := move t0 : 30   [if ⟨10, true⟩]
    refine wpB_take (i := 11) (v := ?_) (get_of_drop rfl) (by kernel_rfl) (by kernel_rfl) (by kernel_rfl) (by kernel_rfl) (fun _ _ _ h => h) (Or.inl ⟨by rfl, ?_⟩) hHeld ?_
    rotate_left
    · (intro w hSw; (try dsimp only at hSw); go_simp <;> with_reducible rfl)
    try simp only [Act.put, List.setIfInBounds_toArray, List.set_cons_zero, List.set_cons_succ]
    -- 12: t37 := nilCheck t36 : 0   [if ⟨10, true⟩]
    refine wpB_take (i := 12) (v := ?_) (get_of_drop rfl) (by kernel_rfl) (by kernel_rfl) (by kernel_rfl) (by kernel_rfl) (fun _ _ _ h => h) (Or.inl ⟨by rfl, ?_⟩) hHeld ?_
    rotate_left
    · (intro w hSw; (try dsimp only at hSw); go_simp <;> with_reducible rfl)
    try simp only [Act.put, List.setIfInBounds_toArray, List.set_cons_zero, List.set_cons_succ]
    -- 13: t38 := fieldAddr 100 t37 1 : 0   [if ⟨10, true⟩]
    refine wpB_take (i := 13) (v := ?_) (get_of_drop rfl) (by kernel_rfl) (by kernel_rfl) (by kernel_rfl) (by kernel_rfl) (fun _ _ _ h => h) (Or.inl ⟨by rfl, ?_⟩) hHeld ?_
    rotate_left
    · (intro w hSw; (try dsimp only at hSw); go_simp <;> with_reducible rfl)
    try simp only [Act.put, List.setIfInBounds_toArray, List.set_cons_zero, List.set_cons_succ]
    -- 14: t39 := fieldAddr 26 t38 0 : 0   [if ⟨10, true⟩]
    refine wpB_take (i := 14) (v := ?_) (get_of_drop rfl) (by kernel_rfl) (by kernel_rfl) (by kernel_rfl) (by kernel_rfl) (fun _ _ _ h => h) (Or.inl ⟨by rfl, ?_⟩) hHeld ?_
    rotate_left
    · (intro w hSw; (try dsimp only at hSw); go_simp <;> with_reducible rfl)
    try simp only [Act.put, List.setIfInBounds_toArray, List.set_cons_zero, List.set_cons_succ]
    -- 15: t40 := load 3 t39 : 3   [if ⟨10, true⟩]
    refine wpB_take (i := 15) (v := ?_) (get_of_drop rfl) (by kernel_rfl) (by kernel_rfl) (by kernel_rfl) (by kernel_rfl) (fun _ _ _ h => h) (Or.inl ⟨by rfl, ?_⟩) hHeld ?_
    rotate_left
    · (intro w hSw; (try dsimp only at hSw); go_simp <;> with_reducible rfl)
    try simp only [Act.put, List.setIfInBounds_toArray, List.set_cons_zero, List.set_cons_succ]
    -- 16: t41 := binOp BinOp.lss 3 t40 #i64:1099511627776 3 : 4   [if ⟨10, true⟩]
    refine wpB_take (i := 16) (v := ?_) (get_of_drop rfl) (by kernel_rfl) (by kernel_rfl) (by kernel_rfl) (by kernel_rfl) (fun _ _ _ h => h) (Or.inl ⟨by rfl, ?_⟩) hHeld ?_
    rotate_left
    · (intro w hSw; (try dsimp only at hSw); go_simp <;> with_reducible rfl)
    try simp only [Act.put, List.setIfInBounds_toArray, List.set_cons_zero, List.set_cons_succ]
    -- 17: t42 := pick t35 t41 #false : 4
    refine wpB_take (i := 17) (v := ?_) (get_of_drop rfl) (by kernel_rfl) (by kernel_rfl) (by kernel_rfl) (by kernel_rfl) (fun _ _ _ h => h) (Or.inl ⟨by rfl, ?_⟩) hHeld ?_
    rotate_left
    · (intro w hSw; (try dsimp only at hSw); go_simp <;> with_reducible rfl)
    try simp only [Act.put, List.setIfInBounds_toArray, List.set_cons_zero, List.set_cons_succ]
    refine wpB_done (by kernel_rfl) ?_ _
    obtain ⟨w3, hw3⟩ : ∃ q_, q_ = w2.drew := ⟨_, rfl⟩
    rw [← hw3]
    have K3 := hid (show Chg (fun _ => False) w2 w3 by rw [hw3]; exact (Chg.refl (fun _ => False) w2).drew)
    have P_3 : w3.cell? ⟨p, 3, none⟩ = some (.int .i64 r.s.view) := U_3 _ K3.out
    clear hw3 hHeld U_2 U_3 U_13
    go_wp2_with fail
    refine (begin_any (H2.out.far K3.out) HOK2.out.cfg.1 ⟨numW_of (by have := HC3.out; have := HST.out.1; omega), numW_of (by have := HOK2.out.cfg; omega)⟩ (by rw [HO2.out]; decide)).mono ?_
    rintro e w4 ⟨O', rfl, h4, ho4, k4⟩
    have H4 := hid h4
    have K4 := hid k4
    clear h4 ho4 k4 P_3
    go_wp2_with fail
    refine (sent_any H4.out).mono ?_
    rintro e w5 ⟨rfl, h5, hv5, k5⟩
    have H5 := hid h5
    have HV5 := hid hv5
    have K5 := hid k5
    clear h5 hv5 k5
    go_wp2_with fail
    go_ret
    rw [HE.out]
    refine ⟨O', rfl, ⟨A, n, c, H5.out⟩, HV5.out, no_own ?_⟩
    exact ((((K1.out.mono (S' := fun j => M4 p b1 b2 b3 j ∨ (Value.slice none 0 0).ownBlock = some j) (fun _ h _ => h.elim)).trans K2.out (fun j hj _ => .inl (.inl hj))).trans K3.out (fun _ h _ => h.elim)).trans K4.out (fun j hj _ => hj)).trans K5.out (fun j hj _ => .inl (.inl hj))
end Go.Proofs.Ytaldoajdhbndhaa.Pa


/- Submit. -/

namespace Go.Proofs.Ytaldoajdhbndhaa.Pa

set_option linter.unusedVariables false

set_option linter.unusedSimpArgs false

open Go.RowKit Go.Proofs.Ytaldoajdhbndhaa.C

attribute [local go_sem] max2_int min2_int max_two min_two

theorem out_nil {r : Rp} (h : r.out = []) : { r with out := [] } = r := by rw [← h]
/-- Nothing was done. -/
theorem Stood.none_ {w w' : World} {p b1 b2 b3 : Nat} {X : Nat → Prop} {r : Rp} {A : Option Addr} {n c : Nat} {e' : Ending} {v : Value → Value} (h : Rep w w p b1 b2 b3 X r A n c (.slice none 0 0)) (ho : r.out = []) (hc : Chg (fun _ => False) w w') (he : e' = .returned (v (.slice none 0 0))) : Stood w p b1 b2 b3 X r v e' w' :=
  ⟨_, he, ⟨A, n, c, by rw [out_nil ho]; exact h.far hc⟩, by rw [ho]; exact Vec.nil _ _ _ _ _, hc.mono (fun _ h _ => h.elim)⟩
theorem EntryAt.view {w : World} {S : Nat → Prop} {e : Entry} {A1 : Option Addr} {n1 c1 : Nat} {A2 : Option Addr} {n2 c2 : Nat} (h : EntryAt w S e A1 n1 c1 A2 n2 c2) {v : Int} (hv : NumW v) : EntryAt w S { e with view := v } A1 n1 c1 A2 n2 c2 := by
  refine ⟨fun u hu => ?_, h.2.1, h.2.2⟩
  simp only [Entry.nums, List.mem_cons] at hu
  rcases hu with hu | hu
  · rw [hu]; exact hv
  · exact h.1 u (by simp only [Entry.nums, List.mem_cons]; exact .inr hu)
set_option maxHeartbeats 4000000 in
set_option maxRecDepth 100000 in
theorem submit_any {w : World} {p b1 b2 b3 : Nat} {X : Nat → Prop} {r : Rp} {A : Option Addr} {n c : Nat} (h : Rep w w p b1 b2 b3 X r A n c (.slice none 0 0)) {e : Entry} {R : Nat → Prop} {E1 : Option Addr} {m1 d1 : Nat} {E2 : Option Addr} {m2 d2 : Nat} (he : EntryAt w R e E1 m1 d1 E2 m2 d2) (hok : RpOk r) (ho : r.out = []) :
    Calls Try.prog 40 #[.pointer (some ⟨p, 0, none⟩), .agg #[.int .i64 e.view, .int .i64 e.client, .int .i64 e.request, .int .i64 e.dflt, .int .i64 e.closed, .int .i64 e.fuel, .int .i64 e.stack, .slice E1 m1 d1, .slice E2 m2 d2]] w (Stood w p b1 b2 b3 X (submitR r e).1 (fun O => .tuple #[O, .int .i64 (submitR r e).2])) := by
  obtain ⟨w1, hw1⟩ : ∃ q_, q_ = (w.alloc (.cells #[.int .i64 e.view, .int .i64 e.client, .int .i64 e.request, .int .i64 e.dflt, .int .i64 e.closed, .int .i64 e.fuel, .int .i64 e.stack, .slice E1 m1 d1, .slice E2 m2 d2] 56)) := ⟨_, rfl⟩
  have C1 := hid (show Chg (fun _ => False) w w1 by rw [hw1]; exact (Chg.refl _ w).alloc _)
  have BX := hid (show w1.heap[w.heap.size]? = some (.cells #[.int .i64 e.view, .int .i64 e.client, .int .i64 e.request, .int .i64 e.dflt, .int .i64 e.closed, .int .i64 e.fuel, .int .i64 e.stack, .slice E1 m1 d1, .slice E2 m2 d2] 56 (0, 0)) by
    rw [hw1]
    have := blk_new w (.cells #[.int .i64 e.view, .int .i64 e.client, .int .i64 e.request, .int .i64 e.dflt, .int .i64 e.closed, .int .i64 e.fuel, .int .i64 e.stack, .slice E1 m1 d1, .slice E2 m2 d2] 56)
    simpa using this)
  have SZ := hid (show w1.heap.size = w.heap.size + 1 by rw [hw1]; simp)
  have H1 := hid (h.far C1.out)
  obtain ⟨b, hb⟩ : ∃ q_, q_ = w.heap.size := ⟨_, rfl⟩
  have HBb := hid hb
  replace BX := hid (show w1.heap[b]? = some (.cells #[.int .i64 e.view, .int .i64 e.client, .int .i64 e.request, .int .i64 e.dflt, .int .i64 e.closed, .int .i64 e.fuel, .int .i64 e.stack, .slice E1 m1 d1, .slice E2 m2 d2] 56 (0, 0)) by rw [hb]; exact BX.out)
  have HSZ := hid (show w1.heap.size = b + 1 by rw [hb]; exact SZ.out)
  have HPB := hid (show p < b by rw [hb]; exact lt_of_blk h.blk)
  have HW0 := hid (show w.heap.size ≤ b by rw [hb]; exact Nat.le_refl _)
  have HH := hid h
  have HE := hid (EntryAt.mono (EntryAt.chg (EntryAt.bound he) C1.out (fun _ _ h => h)) (fun k hk => (show R k ∧ k < w.heap.size from hk)))
  have HOK := hid hok
  have HO := hid ho
  have HST := hid hok.stn
  have L1 := hid h.log.1
  have HN := hid (show n ≤ 64 by have h1 := hok.stn.2.2.1; have h2 := h.log.1; omega)
  have HPBN := hid (show ¬ b = p by have := HPB.out; omega)
  have hro : roleR r = 0 ∨ roleR r = 1 ∨ roleR r = 2 := by unfold roleR; split; exact .inr (.inr rfl); split; exact .inr (.inl rfl); exact .inl rfl
  have HRO := hid hro
  clear h he hok ho hro
  go_enter Try.func40, Try.ntmps40
  go_wp2_with fail
  rw [← hw1, ← hb]
  clear hw1 hb SZ
  refine (role_any H1.out HOK.out.cfg.1 HST.out.1).mono ?_
  rintro e' w2 ⟨rfl, k2⟩
  have K := hid (show Chg (fun _ => False) w w2 from C1.out.trans k2 (fun _ h _ => h))
  replace BX := hid (k2.blk BX.out (fun h => h))
  replace HE := hid (HE.out.chg k2 (fun _ _ h => h))
  clear k2
  by_cases hr1 : roleR r = 1
  case neg =>
    have hr2 : (roleR r != 1) = true := by simp [hr1]
    have HR := hid (show roleR r ≠ 1 from hr1)
    clear hr1
    go_wp2_with fail
    go_ret2
    have e1 : submitR r e = (r, 50) := by unfold submitR; rw [if_pos HR.out]
    rw [e1]
    exact Stood.none_ HH.out HO.out K.out rfl
  have hr2 : (roleR r != 1) = false := by simp [hr1]
  have HR := hid (show ¬ roleR r ≠ 1 from fun h => h hr1)
  clear hr1
  have X_0 : w2.cell? ⟨b, 0, none⟩ = some (.int .i64 e.view) := (cellAt BX.out 0).trans rfl
  have X_1 : w2.cell? ⟨b, 1, none⟩ = some (.int .i64 e.client) := (cellAt BX.out 1).trans rfl
  have X_2 : w2.cell? ⟨b, 2, none⟩ = some (.int .i64 e.request) := (cellAt BX.out 2).trans rfl
  have X_3 : w2.cell? ⟨b, 3, none⟩ = some (.int .i64 e.dflt) := (cellAt BX.out 3).trans rfl
  have X_4 : w2.cell? ⟨b, 4, none⟩ = some (.int .i64 e.closed) := (cellAt BX.out 4).trans rfl
  have X_5 : w2.cell? ⟨b, 5, none⟩ = some (.int .i64 e.fuel) := (cellAt BX.out 5).trans rfl
  have X_6 : w2.cell? ⟨b, 6, none⟩ = some (.int .i64 e.stack) := (cellAt BX.out 6).trans rfl
  have X_7 : w2.cell? ⟨b, 7, none⟩ = some (.slice E1 m1 d1) := (cellAt BX.out 7).trans rfl
  have X_8 : w2.cell? ⟨b, 8, none⟩ = some (.slice E2 m2 d2) := (cellAt BX.out 8).trans rfl
  go_wp2_with fail
  clear X_0 X_1 X_2 X_3 X_4 X_5 X_6 X_7 X_8 hr2
  refine (entryright_any HE.out).mono ?_
  rintro e' w3 ⟨rfl, k3⟩
  replace K := hid (K.out.trans k3 (fun _ h _ => h))
  replace BX := hid (k3.blk BX.out (fun h => h))
  replace HE := hid (HE.out.chg k3 (fun _ _ h => h))
  clear k3
  cases her : entryR e
  case false =>
    have HER := hid her
    clear her
    go_wp2_with fail
    go_ret2
    have e1 : submitR r e = (r, 10) := by unfold submitR; rw [if_neg HR.out, if_pos HER.out]
    rw [e1]
    exact Stood.none_ HH.out HO.out K.out rfl
  have HER := hid her
  have HERN := hid (show ¬ entryR e = false by rw [her]; decide)
  clear her
  have X_0 : w3.cell? ⟨b, 0, none⟩ = some (.int .i64 e.view) := (cellAt BX.out 0).trans rfl
  have X_1 : w3.cell? ⟨b, 1, none⟩ = some (.int .i64 e.client) := (cellAt BX.out 1).trans rfl
  have X_2 : w3.cell? ⟨b, 2, none⟩ = some (.int .i64 e.request) := (cellAt BX.out 2).trans rfl
  have X_3 : w3.cell? ⟨b, 3, none⟩ = some (.int .i64 e.dflt) := (cellAt BX.out 3).trans rfl
  have X_4 : w3.cell? ⟨b, 4, none⟩ = some (.int .i64 e.closed) := (cellAt BX.out 4).trans rfl
  have X_5 : w3.cell? ⟨b, 5, none⟩ = some (.int .i64 e.fuel) := (cellAt BX.out 5).trans rfl
  have X_6 : w3.cell? ⟨b, 6, none⟩ = some (.int .i64 e.stack) := (cellAt BX.out 6).trans rfl
  have X_7 : w3.cell? ⟨b, 7, none⟩ = some (.slice E1 m1 d1) := (cellAt BX.out 7).trans rfl
  have X_8 : w3.cell? ⟨b, 8, none⟩ = some (.slice E2 m2 d2) := (cellAt BX.out 8).trans rfl
  go_wp2_with fail
  clear X_0 X_1 X_2 X_3 X_4 X_5 X_6 X_7 X_8
  have H := hid (HH.out.far K.out)
  refine (had_any H.out HN.out).mono ?_
  rintro e' w4 ⟨rfl, k4⟩
  replace K := hid (K.out.trans k4 (fun _ h _ => h))
  replace BX := hid (k4.blk BX.out (fun h => h))
  replace HE := hid (HE.out.chg k4 (fun _ _ h => h))
  replace H := hid (H.out.far k4)
  clear k4
  by_cases hhd : hadR r e = 0
  case neg =>
    have hhd2 : (hadR r e != 0) = true := by simp [hhd]
    have HHD := hid (show hadR r e ≠ 0 from hhd)
    clear hhd
    go_wp2_with fail
    go_ret2
    have e1 : submitR r e = (r, hadR r e) := by unfold submitR; rw [if_neg HR.out, if_neg HERN.out, if_pos HHD.out]
    rw [e1]
    exact Stood.none_ HH.out HO.out K.out rfl
  have HHD := hid (show ¬ hadR r e ≠ 0 from fun h => h hhd)
  rw [hhd]
  clear hhd
  go_wp2_with fail
  refine (length_any H.out HN.out).mono ?_
  rintro e' w5 ⟨rfl, rfl⟩
  by_cases hfl : (n : Int) = 64
  case pos =>
    have hfl2 : ((n : Int) == 64) = true := by simp [hfl]
    have HFL := hid (show (r.s.log.length : Int) = 64 by rw [← L1.out]; exact hfl)
    clear hfl
    go_wp2_with fail
    go_ret2
    have e1 : submitR r e = (r, 33) := by unfold submitR; rw [if_neg HR.out, if_neg HERN.out, if_neg HHD.out, if_pos HFL.out]
    rw [e1]
    exact Stood.none_ HH.out HO.out K.out rfl
  have hfl2 : ((n : Int) == 64) = false := by simp [hfl]
  have HFL := hid (show ¬ (r.s.log.length : Int) = 64 by rw [← L1.out]; exact hfl)
  have HN63 := hid (show n ≤ 63 by have := HN.out; omega)
  clear hfl
  have BP := hid H.out.blk
  have P_3 : w4.cell? ⟨p, 3, none⟩ = some (.int .i64 r.s.view) := (cellAt BP.out 3).trans rfl
  have X_0 : w4.cell? ⟨b, 0, none⟩ = some (.int .i64 e.view) := (cellAt BX.out 0).trans rfl
  have X_f0 : w4.frozen? ⟨b, 0, none⟩ = false := freeAt BX.out 0
  go_wp2_with fail
  obtain ⟨w6, hw6⟩ : ∃ q_, q_ = w4.setCell ⟨b, 0, none⟩ (.int .i64 r.s.view) := ⟨_, rfl⟩
  rw [← hw6]
  have K6 := hid (show Chg (fun j => j = b) w4 w6 by rw [hw6]; exact (Chg.refl (fun j => j = b) w4).set (fun _ => rfl) _)
  replace BX := hid (show w6.heap[b]? = some (.cells #[.int .i64 r.s.view, .int .i64 e.client, .int .i64 e.request, .int .i64 e.dflt, .int .i64 e.closed, .int .i64 e.fuel, .int .i64 e.stack, .slice E1 m1 d1, .slice E2 m2 d2] 56 (0, 0)) by rw [hw6]; exact blk_set BX.out 0 _)
  replace HE := hid ((HE.out.chg K6.out (fun j hj e => by have h1 := hj.2; have h2 := HBb.out; omega)).view (v := r.s.view) (numW_of (by have := HST.out; omega)))
  replace K := hid (show Chg (fun _ => False) w w6 from K.out.trans K6.out (fun j hj hl => by have := HBb.out; omega))
  replace H := hid (HH.out.far K.out)
  replace BP := hid H.out.blk
  clear hw6 P_3 X_0 X_f0 hfl2
  obtain ⟨e2, he2⟩ : ∃ q_, q_ = { e with view := r.s.view } := ⟨_, rfl⟩
  rw [← he2] at HE
  have HE2 := hid he2
  have HER2 := hid (show entryR e2 = true by rw [he2]; exact entryR_view HER.out HST.out.1)
  obtain ⟨ra, hra⟩ : ∃ q_, q_ = putR r [e2] := ⟨_, rfl⟩
  have HRA := hid hra
  have HAL := hid H.out.log
  clear he2 hra
  go_upto_region 11 with fail
  go_cut [] (fun wx => ∃ A7 c7, Rep w wx p b1 b2 b3 X ra A7 (n + 1) c7 (.slice none 0 0) ∧ Chg (fun j => j = p) w wx)
  case first =>
    have U_7 : ∀ wx, Chg (fun _ => False) w6 wx → wx.cell? ⟨p, 7, none⟩ = some (.slice A n c) := fun wx hx => (cellAt (hx.blk BP.out (fun h => h)) 7).trans rfl
    have P_7 : w6.cell? ⟨p, 7, none⟩ = some (.slice A n c) := (cellAt BP.out 7).trans rfl
    have X_0 : ∀ wx, Chg (fun _ => False) w6 wx → wx.cell? ⟨b, 0, none⟩ = some (.int .i64 r.s.view) := fun wx hx => (cellAt (hx.blk BX.out (fun h => h)) 0).trans rfl
    have X_1 : ∀ wx, Chg (fun _ => False) w6 wx → wx.cell? ⟨b, 1, none⟩ = some (.int .i64 e.client) := fun wx hx => (cellAt (hx.blk BX.out (fun h => h)) 1).trans rfl
    have X_2 : ∀ wx, Chg (fun _ => False) w6 wx → wx.cell? ⟨b, 2, none⟩ = some (.int .i64 e.request) := fun wx hx => (cellAt (hx.blk BX.out (fun h => h)) 2).trans rfl
    have X_3 : ∀ wx, Chg (fun _ => False) w6 wx → wx.cell? ⟨b, 3, none⟩ = some (.int .i64 e.dflt) := fun wx hx => (cellAt (hx.blk BX.out (fun h => h)) 3).trans rfl
    have X_4 : ∀ wx, Chg (fun _ => False) w6 wx → wx.cell? ⟨b, 4, none⟩ = some (.int .i64 e.closed) := fun wx hx => (cellAt (hx.blk BX.out (fun h => h)) 4).trans rfl
    have X_5 : ∀ wx, Chg (fun _ => False) w6 wx → wx.cell? ⟨b, 5, none⟩ = some (.int .i64 e.fuel) := fun wx hx => (cellAt (hx.blk BX.out (fun h => h)) 5).trans rfl
    have X_6 : ∀ wx, Chg (fun _ => False) w6 wx → wx.cell? ⟨b, 6, none⟩ = some (.int .i64 e.stack) := fun wx hx => (cellAt (hx.blk BX.out (fun h => h)) 6).trans rfl
    have X_7 : ∀ wx, Chg (fun _ => False) w6 wx → wx.cell? ⟨b, 7, none⟩ = some (.slice E1 m1 d1) := fun wx hx => (cellAt (hx.blk BX.out (fun h => h)) 7).trans rfl
    have X_8 : ∀ wx, Chg (fun _ => False) w6 wx → wx.cell? ⟨b, 8, none⟩ = some (.slice E2 m2 d2) := fun wx hx => (cellAt (hx.blk BX.out (fun h => h)) 8).trans rfl
    refine wpB_start (fun wx : World => Chg (fun _ => False) w6 wx) (by kernel_rfl) ?_
    have hHeld : (fun wx : World => Chg (fun _ => False) w6 wx) _ := (Chg.refl (fun _ => False) w6).drew
    -- 0: t31 := move t0 : 30
    refine wpB_take (i := 0) (v := ?_) (get_of_drop rfl) (by kernel_rfl) (by kernel_rfl) (by kernel_rfl) (by kernel_rfl) (fun _ _ _ h => h) (Or.inl ⟨by rfl, ?_⟩) hHeld ?_
    rotate_left
    · (intro w hSw; (try dsimp only at hSw); go_simp <;> with_reducible rfl)
    try simp only [Act.put, List.setIfInBounds_toArray, List.set_cons_zero, List.set_cons_succ]
    -- 1: t32 := move t0 : 30
    refine wpB_take (i := 1) (v := ?_) (get_of_drop rfl) (by kernel_rfl) (by kernel_rfl) (by kernel_rfl) (by kernel_rfl) (fun _ _ _ h => h) (Or.inl ⟨by rfl, ?_⟩) hHeld ?_
    rotate_left
    · (intro w hSw; (try dsimp only at hSw); go_simp <;> with_reducible rfl)
    try simp only [Act.put, List.setIfInBounds_toArray, List.set_cons_zero, List.set_cons_succ]
    -- 2: t33 := nilCheck t32 : 0
    refine wpB_take (i := 2) (v := ?_) (get_of_drop rfl) (by kernel_rfl) (by kernel_rfl) (by kernel_rfl) (by kernel_rfl) (fun _ _ _ h => h) (Or.inl ⟨by rfl, ?_⟩) hHeld ?_
    rotate_left
    · (intro w hSw; (try dsimp only at hSw); go_simp <;> with_reducible rfl)
    try simp only [Act.put, List.setIfInBounds_toArray, List.set_cons_zero, List.set_cons_succ]
    -- 3: t34 := fieldAddr 100 t33 1 : 0
    refine wpB_take (i := 3) (v := ?_) (get_of_drop rfl) (by kernel_rfl) (by kernel_rfl) (by kernel_rfl) (by kernel_rfl) (fun _ _ _ h => h) (Or.inl ⟨by rfl, ?_⟩) hHeld ?_
    rotate_left
    · (intro w hSw; (try dsimp only at hSw); go_simp <;> with_reducible rfl)
    try simp only [Act.put, List.setIfInBounds_toArray, List.set_cons_zero, List.set_cons_succ]
    -- 4: t35 := fieldAddr 26 t34 4 : 0
    refine wpB_take (i := 4) (v := ?_) (get_of_drop rfl) (by kernel_rfl) (by kernel_rfl) (by kernel_rfl) (by kernel_rfl) (fun _ _ _ h => h) (Or.inl ⟨by rfl, ?_⟩) hHeld ?_
    rotate_left
    · (intro w hSw; (try dsimp only at hSw); go_simp <;> with_reducible rfl)
    try simp only [Act.put, List.setIfInBounds_toArray, List.set_cons_zero, List.set_cons_succ]
    -- 5: t36 := load 24 t35 : 24
    refine wpB_take (i := 5) (v := ?_) (get_of_drop rfl) (by kernel_rfl) (by kernel_rfl) (by kernel_rfl) (by kernel_rfl) (fun _ _ _ h => h) (Or.inl ⟨by rfl, ?_⟩) hHeld ?_
    rotate_left
    · (intro w hSw; (try dsimp only at hSw); go_simp <;> with_reducible rfl)
    try simp only [Act.put, List.setIfInBounds_toArray, List.set_cons_zero, List.set_cons_succ]
    -- 7: t38 := load 56 t3 : 56
    refine wpB_take (i := 7) (v := ?_) (get_of_drop rfl) (by kernel_rfl) (by kernel_rfl) (by kernel_rfl) (by kernel_rfl) (fun _ _ _ h => h) (Or.inl ⟨by rfl, ?_⟩) hHeld ?_
    rotate_left
    · (intro w hSw; (try dsimp only at hSw); go_simp <;> with_reducible rfl)
    try simp only [Act.put, List.setIfInBounds_toArray, List.set_cons_zero, List.set_cons_succ]
    refine wpB_two (i := 6) (j := 8) (by kernel_rfl) (get_of_drop rfl) (get_of_drop rfl) (fun K hK => ?_) (fun K hK => ?_)
    · -- 6: t37 := CALL fn77(t36) : 24
      go_simp
      refine (clip_any HAL.out.2.1 (by have := HN.out; omega)).mono ?_
      rintro e' wy ⟨rfl, rfl⟩
      refine hK.out _ _ ?_ (fun hHeld2 => ?_)
      · first | assumption | exact HL.out | exact HCY.out | exact HC7.out
      clear hHeld hK K
      have hHeld := hHeld2
      clear hHeld2
      try simp only [Act.put, List.setIfInBounds_toArray, List.set_cons_zero, List.set_cons_succ]
      -- 8: t39 := buildSlice 24 1 [⟨0, t38⟩] : 24
      refine wpB_act (i := 8) (by kernel_rfl) (get_of_drop rfl) (fun K hK => ?_)
      go_simp
      obtain ⟨wl, hwl⟩ : ∃ q_, q_ = (w6.alloc (.cells #[.int .i64 r.s.view, .int .i64 e.client, .int .i64 e.request, .int .i64 e.dflt, .int .i64 e.closed, .int .i64 e.fuel, .int .i64 e.stack, .slice E1 m1 d1, .slice E2 m2 d2] 56)).drew := ⟨_, rfl⟩
      rw [← hwl]
      have HL := hid (show Chg (fun _ => False) w6 wl by rw [hwl]; exact ((Chg.refl _ w6).alloc _).drew)
      have HLIT := hid (show Ty.At entryK wl (fun j => (R j ∧ j < w.heap.size) ∨ j = w6.heap.size) (some ⟨w6.heap.size, 0, none⟩) 1 1 [e2] by rw [hwl]; exact (lit_at (cs := #[.int .i64 r.s.view, .int .i64 e.client, .int .i64 e.request, .int .i64 e.dflt, .int .i64 e.closed, .int .i64 e.fuel, .int .i64 e.stack, .slice E1 m1 d1, .slice E2 m2 d2]) (t := 56) (by have := entry_shut HE.out; rw [HE2.out] at this ⊢; exact this)).chg ((Chg.refl (fun _ => False) _).drew) (fun _ _ h => h))
      clear hwl
      refine hK.out _ _ ?_ (fun hHeld2 => ?_)
      · first | assumption | exact HL.out | exact HCY.out | exact HC7.out
      clear hHeld hK K
      have hHeld := hHeld2
      clear hHeld2
      try simp only [Act.put, List.setIfInBounds_toArray, List.set_cons_zero, List.set_cons_succ]
      -- 9: t40 := CALL fn47(t39) : 24
      refine wpB_act (i := 9) (by kernel_rfl) (get_of_drop rfl) (fun K hK => ?_)
      go_simp
      refine (rcopied_any HLIT.out (by decide) (fits_right (fun x hx => by rw [List.mem_singleton.1 hx]; exact HER2.out))).mono ?_
      rintro e' wy ⟨B5, d5, rfl, hat, hcy⟩
      have HCY := hid (show Chg (fun _ => False) w6 wy from HL.out.trans hcy (fun _ h _ => h))
      have HAT := hid hat
      clear hcy hat
      refine hK.out _ _ ?_ (fun hHeld2 => ?_)
      · first | assumption | exact HL.out | exact HCY.out | exact HC7.out
      clear hHeld hK K
      have hHeld := hHeld2
      clear hHeld2
      try simp only [Act.put, List.setIfInBounds_toArray, List.set_cons_zero, List.set_cons_succ]
      -- 10: t41 := append(t37, t40) types [24, 24] : 24
      refine wpB_act (i := 10) (by kernel_rfl) (get_of_drop rfl) (fun K hK => ?_)
      refine join_step (d := entryK) _ rfl (.tmp 37) (.tmp 40) 24 56 (.agg #[.int .i64 0, .int .i64 0, .int .i64 0, .int .i64 0, .int .i64 0, .int .i64 0, .int .i64 0, .slice none 0 0, .slice none 0 0]) 104 rfl Try.underlying24 infoEntryP rfl (by decide) (by decide) (A := A) (n := n) (B := B5) (m := 1) (c := d5) rfl rfl (at_clip (HAL.out.chg HCY.out (fun _ _ h => h))) HAT.out.at (by decide) (by have := HN.out; omega) ?_
      intro A7 c7 w7 h7 k7
      have HC7 := hid (show Chg (fun _ => False) w6 w7 from HCY.out.trans k7 (fun _ h _ => h))
      have HL7 := hid h7
      have HLS := hid (show w6.heap.size ≤ wl.heap.size from HL.out.size)
      have HYS := hid HCY.out.size
      have BP7 := hid (HC7.out.blk BP.out (fun h => h))
      have z7 : w7.cell? ⟨p, 7, none⟩ = some (.slice A n c) := (cellAt BP7.out 7).trans rfl
      have f7 : w7.frozen? ⟨p, 7, none⟩ = false := freeAt BP7.out 7
      clear h7 k7
      refine hK.out _ _ ?_ (fun hHeld2 => ?_)
      · first | assumption | exact HL.out | exact HCY.out | exact HC7.out
      clear hHeld hK K
      have hHeld := hHeld2
      clear hHeld2
      try simp only [Act.put, List.setIfInBounds_toArray, List.set_cons_zero, List.set_cons_succ]
      -- 11: t42 := nilCheck t31 : 0
      refine wpB_take (i := 11) (v := ?_) (get_of_drop rfl) (by kernel_rfl) (by kernel_rfl) (by kernel_rfl) (by kernel_rfl) (fun _ _ _ h => h) (Or.inl ⟨by rfl, ?_⟩) hHeld ?_
      rotate_left
      · (intro w hSw; (try dsimp only at hSw); go_simp <;> with_reducible rfl)
      try simp only [Act.put, List.setIfInBounds_toArray, List.set_cons_zero, List.set_cons_succ]
      -- 12: t43 := fieldAddr 100 t42 1 : 0
      refine wpB_take (i := 12) (v := ?_) (get_of_drop rfl) (by kernel_rfl) (by kernel_rfl) (by kernel_rfl) (by kernel_rfl) (fun _ _ _ h => h) (Or.inl ⟨by rfl, ?_⟩) hHeld ?_
      rotate_left
      · (intro w hSw; (try dsimp only at hSw); go_simp <;> with_reducible rfl)
      try simp only [Act.put, List.setIfInBounds_toArray, List.set_cons_zero, List.set_cons_succ]
      -- 13: t44 := fieldAddr 26 t43 4 : 0
      refine wpB_take (i := 13) (v := ?_) (get_of_drop rfl) (by kernel_rfl) (by kernel_rfl) (by kernel_rfl) (by kernel_rfl) (fun _ _ _ h => h) (Or.inl ⟨by rfl, ?_⟩) hHeld ?_
      rotate_left
      · (intro w hSw; (try dsimp only at hSw); go_simp <;> with_reducible rfl)
      try simp only [Act.put, List.setIfInBounds_toArray, List.set_cons_zero, List.set_cons_succ]
      -- 14: t- := store 24 t44 t41 : 0 (BARRIER)
      refine wpB_bar (i := 14) (by kernel_rfl) (get_of_drop rfl) (by kernel_rfl) (fun K hK => ?_)
      go_simp
      refine hK.out _ _ (fun _ : World => True) ?_
      clear hHeld hK K
      have hHeld := trivial
      try simp only [Act.put, List.setIfInBounds_toArray, List.set_cons_zero, List.set_cons_succ]
      refine wpB_done (by kernel_rfl) ?_ _
      clear hHeld
      have K8 := hid (show Chg (fun j => j = p) w7 (w7.setCell ⟨p, 7, none⟩ (.slice A7 (n + 1) c7)) from (Chg.refl (fun j => j = p) w7).set (fun _ => rfl) _)
      have HLA : Ty.At entryK (w7.setCell ⟨p, 7, none⟩ (.slice A7 (n + 1) c7)) (Lg X (.slice none 0 0)) A7 (n + 1) c7 ra.s.log := by
        rw [HRA.out]
        have h2 : p < w6.heap.size := lt_of_blk BP.out
        have h3 := HLS.out
        have h4 := HYS.out
        refine (HL7.out.chg K8.out (fun j hj e => ?_)).mono (fun j hj => ?_)
        · rcases hj.1 with h | h | h
          · exact h.1 (H.out.sub.1 _ (.inl e))
          · rcases h with h | h <;> (have : wl.heap.size ≤ j := h; omega)
          · omega
        · rcases hj.1 with h | h | h
          · exact h
          · refine H.out.new_lg ?_
            rcases h with h | h <;> exact Nat.le_trans h3 h
          · exact H.out.new_lg (Nat.le_trans h4 h)
      go_wp2_with fail
      go_meet
      exact ⟨A7, c7, (H.out.far HC7.out).relog K8.out (by rw [HRA.out]; exact blk_set BP7.out 7 _) HLA (by rw [HRA.out]; rfl) (by rw [HRA.out]; rfl) (by rw [HRA.out]; rfl) (by rw [HRA.out]; rfl), ((K.out.trans HC7.out (fun _ h _ => h)).mono (S' := fun j => j = p) (fun _ h _ => h.elim)).trans K8.out (fun _ h _ => h)⟩
    · -- 8: t39 := buildSlice 24 1 [⟨0, t38⟩] : 24
      go_simp
      obtain ⟨wl, hwl⟩ : ∃ q_, q_ = (w6.alloc (.cells #[.int .i64 r.s.view, .int .i64 e.client, .int .i64 e.request, .int .i64 e.dflt, .int .i64 e.closed, .int .i64 e.fuel, .int .i64 e.stack, .slice E1 m1 d1, .slice E2 m2 d2] 56)).drew := ⟨_, rfl⟩
      rw [← hwl]
      have HL := hid (show Chg (fun _ => False) w6 wl by rw [hwl]; exact ((Chg.refl _ w6).alloc _).drew)
      have HLIT := hid (show Ty.At entryK wl (fun j => (R j ∧ j < w.heap.size) ∨ j = w6.heap.size) (some ⟨w6.heap.size, 0, none⟩) 1 1 [e2] by rw [hwl]; exact (lit_at (cs := #[.int .i64 r.s.view, .int .i64 e.client, .int .i64 e.request, .int .i64 e.dflt, .int .i64 e.closed, .int .i64 e.fuel, .int .i64 e.stack, .slice E1 m1 d1, .slice E2 m2 d2]) (t := 56) (by have := entry_shut HE.out; rw [HE2.out] at this ⊢; exact this)).chg ((Chg.refl (fun _ => False) _).drew) (fun _ _ h => h))
      clear hwl
      refine hK.out _ _ ?_ (fun hHeld2 => ?_)
      · first | assumption | exact HL.out | exact HCY.out | exact HC7.out
      clear hHeld hK K
      have hHeld := hHeld2
      clear hHeld2
      try simp only [Act.put, List.setIfInBounds_toArray, List.set_cons_zero, List.set_cons_succ]
      -- 6: t37 := CALL fn77(t36) : 24
      refine wpB_act (i := 6) (by kernel_rfl) (get_of_drop rfl) (fun K hK => ?_)
      go_simp
      refine (clip_any HAL.out.2.1 (by have := HN.out; omega)).mono ?_
      rintro e' wy ⟨rfl, rfl⟩
      refine hK.out _ _ ?_ (fun hHeld2 => ?_)
      · first | assumption | exact HL.out | exact HCY.out | exact HC7.out
      clear hHeld hK K
      have hHeld := hHeld2
      clear hHeld2
      try simp only [Act.put, List.setIfInBounds_toArray, List.set_cons_zero, List.set_cons_succ]
      -- 9: t40 := CALL fn47(t39) : 24
      refine wpB_act (i := 9) (by kernel_rfl) (get_of_drop rfl) (fun K hK => ?_)
      go_simp
      refine (rcopied_any HLIT.out (by decide) (fits_right (fun x hx => by rw [List.mem_singleton.1 hx]; exact HER2.out))).mono ?_
      rintro e' wy ⟨B5, d5, rfl, hat, hcy⟩
      have HCY := hid (show Chg (fun _ => False) w6 wy from HL.out.trans hcy (fun _ h _ => h))
      have HAT := hid hat
      clear hcy hat
      refine hK.out _ _ ?_ (fun hHeld2 => ?_)
      · first | assumption | exact HL.out | exact HCY.out | exact HC7.out
      clear hHeld hK K
      have hHeld := hHeld2
      clear hHeld2
      try simp only [Act.put, List.setIfInBounds_toArray, List.set_cons_zero, List.set_cons_succ]
      -- 10: t41 := append(t37, t40) types [24, 24] : 24
      refine wpB_act (i := 10) (by kernel_rfl) (get_of_drop rfl) (fun K hK => ?_)
      refine join_step (d := entryK) _ rfl (.tmp 37) (.tmp 40) 24 56 (.agg #[.int .i64 0, .int .i64 0, .int .i64 0, .int .i64 0, .int .i64 0, .int .i64 0, .int .i64 0, .slice none 0 0, .slice none 0 0]) 104 rfl Try.underlying24 infoEntryP rfl (by decide) (by decide) (A := A) (n := n) (B := B5) (m := 1) (c := d5) rfl rfl (at_clip (HAL.out.chg HCY.out (fun _ _ h => h))) HAT.out.at (by decide) (by have := HN.out; omega) ?_
      intro A7 c7 w7 h7 k7
      have HC7 := hid (show Chg (fun _ => False) w6 w7 from HCY.out.trans k7 (fun _ h _ => h))
      have HL7 := hid h7
      have HLS := hid (show w6.heap.size ≤ wl.heap.size from HL.out.size)
      have HYS := hid HCY.out.size
      have BP7 := hid (HC7.out.blk BP.out (fun h => h))
      have z7 : w7.cell? ⟨p, 7, none⟩ = some (.slice A n c) := (cellAt BP7.out 7).trans rfl
      have f7 : w7.frozen? ⟨p, 7, none⟩ = false := freeAt BP7.out 7
      clear h7 k7
      refine hK.out _ _ ?_ (fun hHeld2 => ?_)
      · first | assumption | exact HL.out | exact HCY.out | exact HC7.out
      clear hHeld hK K
      have hHeld := hHeld2
      clear hHeld2
      try simp only [Act.put, List.setIfInBounds_toArray, List.set_cons_zero, List.set_cons_succ]
      -- 11: t42 := nilCheck t31 : 0
      refine wpB_take (i := 11) (v := ?_) (get_of_drop rfl) (by kernel_rfl) (by kernel_rfl) (by kernel_rfl) (by kernel_rfl) (fun _ _ _ h => h) (Or.inl ⟨by rfl, ?_⟩) hHeld ?_
      rotate_left
      · (intro w hSw; (try dsimp only at hSw); go_simp <;> with_reducible rfl)
      try simp only [Act.put, List.setIfInBounds_toArray, List.set_cons_zero, List.set_cons_succ]
      -- 12: t43 := fieldAddr 100 t42 1 : 0
      refine wpB_take (i := 12) (v := ?_) (get_of_drop rfl) (by kernel_rfl) (by kernel_rfl) (by kernel_rfl) (by kernel_rfl) (fun _ _ _ h => h) (Or.inl ⟨by rfl, ?_⟩) hHeld ?_
      rotate_left
      · (intro w hSw; (try dsimp only at hSw); go_simp <;> with_reducible rfl)
      try simp only [Act.put, List.setIfInBounds_toArray, List.set_cons_zero, List.set_cons_succ]
      -- 13: t44 := fieldAddr 26 t43 4 : 0
      refine wpB_take (i := 13) (v := ?_) (get_of_drop rfl) (by kernel_rfl) (by kernel_rfl) (by kernel_rfl) (by kernel_rfl) (fun _ _ _ h => h) (Or.inl ⟨by rfl, ?_⟩) hHeld ?_
      rotate_left
      · (intro w hSw; (try dsimp only at hSw); go_simp <;> with_reducible rfl)
      try simp only [Act.put, List.setIfInBounds_toArray, List.set_cons_zero, List.set_cons_succ]
      -- 14: t- := store 24 t44 t41 : 0 (BARRIER)
      refine wpB_bar (i := 14) (by kernel_rfl) (get_of_drop rfl) (by kernel_rfl) (fun K hK => ?_)
      go_simp
      refine hK.out _ _ (fun _ : World => True) ?_
      clear hHeld hK K
      have hHeld := trivial
      try simp only [Act.put, List.setIfInBounds_toArray, List.set_cons_zero, List.set_cons_succ]
      refine wpB_done (by kernel_rfl) ?_ _
      clear hHeld
      have K8 := hid (show Chg (fun j => j = p) w7 (w7.setCell ⟨p, 7, none⟩ (.slice A7 (n + 1) c7)) from (Chg.refl (fun j => j = p) w7).set (fun _ => rfl) _)
      have HLA : Ty.At entryK (w7.setCell ⟨p, 7, none⟩ (.slice A7 (n + 1) c7)) (Lg X (.slice none 0 0)) A7 (n + 1) c7 ra.s.log := by
        rw [HRA.out]
        have h2 : p < w6.heap.size := lt_of_blk BP.out
        have h3 := HLS.out
        have h4 := HYS.out
        refine (HL7.out.chg K8.out (fun j hj e => ?_)).mono (fun j hj => ?_)
        · rcases hj.1 with h | h | h
          · exact h.1 (H.out.sub.1 _ (.inl e))
          · rcases h with h | h <;> (have : wl.heap.size ≤ j := h; omega)
          · omega
        · rcases hj.1 with h | h | h
          · exact h
          · refine H.out.new_lg ?_
            rcases h with h | h <;> exact Nat.le_trans h3 h
          · exact H.out.new_lg (Nat.le_trans h4 h)
      go_wp2_with fail
      go_meet
      exact ⟨A7, c7, (H.out.far HC7.out).relog K8.out (by rw [HRA.out]; exact blk_set BP7.out 7 _) HLA (by rw [HRA.out]; rfl) (by rw [HRA.out]; rfl) (by rw [HRA.out]; rfl) (by rw [HRA.out]; rfl), ((K.out.trans HC7.out (fun _ h _ => h)).mono (S' := fun j => j = p) (fun _ h _ => h.elim)).trans K8.out (fun _ h _ => h)⟩
  case rest =>
    obtain ⟨A7, c7, h7, k7⟩ := hcut
    have H7 := hid h7
    have K7 := hid k7
    clear h7 k7
    have HN1 := hid (show n + 1 ≤ 64 by have := HN63.out; omega)
    obtain ⟨n1, hn1⟩ : ∃ q_, q_ = n + 1 := ⟨_, rfl⟩
    rw [← hn1] at H7 HN1
    have HN1E := hid hn1
    have hn1b : (n1 : Int) ≤ 64 := by have := HN1.out; omega
    have hn1c : 1 ≤ (n1 : Int) := by omega
    have hwn : IntKind.i64.wrap ((n1 : Int) - 1) = (n1 : Int) - 1 := IntWalk.i64_in _ (by omega)
    clear hn1
    have HLOG := hid (show ra.s.log = r.s.log ++ [e2] by rw [HRA.out]; rfl)
    have HCM := hid (show ra.s.commit = r.s.commit by rw [HRA.out]; rfl)
    obtain ⟨A', c', hcut2, hat2⟩ := Ty.At.from_ (P := Try.prog) (d := entryK) Try.underlying24 infoEntryP A7 n1 c7 n 1 ((n1 : Int) - 1) (by have := HN1E.out; omega) (by have := HN1E.out; omega) (by have := HN1E.out; omega)
    have HAT2 := hid hat2
    clear hat2
    go_wp2_with fail
    refine (told_any H7.out HN1.out).mono ?_
    rintro e' w8 ⟨rfl, k8⟩
    have H8 := hid (H7.out.far k8)
    have K8 := hid (K7.out.trans k8 (fun _ h _ => h.elim))
    rw [HCM.out]
    clear k8
    obtain ⟨b9, hb9⟩ : ∃ q_, q_ = w8.heap.size := ⟨_, rfl⟩
    obtain ⟨w9, hw9⟩ : ∃ q_, q_ = w8.alloc (.cells #[.int .i64 1, .int .i64 0, .int .i64 0, .int .i64 0, .int .i64 (n1 : Int), .int .i64 r.s.commit, .int .i64 0, .slice A7 n1 c7] 41) := ⟨_, rfl⟩
    have C9 := hid (show Chg (fun _ => False) w8 w9 by rw [hw9]; exact (Chg.refl _ w8).alloc _)
    have B9 := hid (show w9.heap[b9]? = some (.cells #[.int .i64 1, .int .i64 0, .int .i64 0, .int .i64 0, .int .i64 (n1 : Int), .int .i64 r.s.commit, .int .i64 0, .slice A7 n1 c7] 41 (0, 0)) by rw [hw9, hb9]; exact blk_new w8 _)
    have HB9 := hid hb9
    go_wp2_with fail
    rw [← hw9, ← hb9]
    clear hw9 hb9
    have Y_7 : ∀ wx, Chg (fun _ => False) w9 wx → wx.cell? ⟨b9, 7, none⟩ = some (.slice A7 n1 c7) := fun wx hx => (cellAt (hx.blk B9.out (fun h => h)) 7).trans rfl
    have y7 : w9.cell? ⟨b9, 7, none⟩ = some (.slice A7 n1 c7) := (cellAt B9.out 7).trans rfl
    have f7 : w9.frozen? ⟨b9, 7, none⟩ = false := freeAt B9.out 7
    have H9 := hid (H8.out.far C9.out)
    refine wpB_start (fun wx : World => Chg (fun _ => False) w9 wx) (by kernel_rfl) ?_
    have hHeld : (fun wx : World => Chg (fun _ => False) w9 wx) _ := (Chg.refl (fun _ => False) w9).drew
    -- 0: t47 := fieldAddr 41 t7 7 : 0
    refine wpB_take (i := 0) (v := ?_) (get_of_drop rfl) (by kernel_rfl) (by kernel_rfl) (by kernel_rfl) (by kernel_rfl) (fun _ _ _ h => h) (Or.inl ⟨by rfl, ?_⟩) hHeld ?_
    rotate_left
    · (intro w hSw; (try dsimp only at hSw); go_simp <;> with_reducible rfl)
    try simp only [Act.put, List.setIfInBounds_toArray, List.set_cons_zero, List.set_cons_succ]
    -- 1: t48 := load 24 t47 : 24
    refine wpB_take (i := 1) (v := ?_) (get_of_drop rfl) (by kernel_rfl) (by kernel_rfl) (by kernel_rfl) (by kernel_rfl) (fun _ _ _ h => h) (Or.inl ⟨by rfl, ?_⟩) hHeld ?_
    rotate_left
    · (intro w hSw; (try dsimp only at hSw); go_simp <;> with_reducible rfl)
    try simp only [Act.put, List.setIfInBounds_toArray, List.set_cons_zero, List.set_cons_succ]
    -- 2: t49 := move t0 : 30
    refine wpB_take (i := 2) (v := ?_) (get_of_drop rfl) (by kernel_rfl) (by kernel_rfl) (by kernel_rfl) (by kernel_rfl) (fun _ _ _ h => h) (Or.inl ⟨by rfl, ?_⟩) hHeld ?_
    rotate_left
    · (intro w hSw; (try dsimp only at hSw); go_simp <;> with_reducible rfl)
    try simp only [Act.put, List.setIfInBounds_toArray, List.set_cons_zero, List.set_cons_succ]
    -- 3: t50 := CALL fn76(t49) : 3
    refine wpB_act (i := 3) (by kernel_rfl) (get_of_drop rfl) (fun K hK => ?_)
    go_simp
    refine (length_any (H9.out.far hHeld) HN1.out).mono ?_
    rintro e' wy ⟨rfl, rfl⟩
    refine hK.out _ _ ?_ (fun hHeld2 => ?_)
    · first | assumption | exact Chg.alloc hHeld _
    clear hHeld hK K
    have hHeld := hHeld2
    clear hHeld2
    try simp only [Act.put, List.setIfInBounds_toArray, List.set_cons_zero, List.set_cons_succ]
    -- 4: t51 := binOp BinOp.sub 3 t50 #i64:1 3 : 3
    refine wpB_take (i := 4) (v := ?_) (get_of_drop rfl) (by kernel_rfl) (by kernel_rfl) (by kernel_rfl) (by kernel_rfl) (fun _ _ _ h => h) (Or.inl ⟨by rfl, ?_⟩) hHeld ?_
    rotate_left
    · (intro w hSw; (try dsimp only at hSw); go_simp <;> with_reducible rfl)
    try simp only [Act.put, List.setIfInBounds_toArray, List.set_cons_zero, List.set_cons_succ]
    -- 5: t52 := slice 24 t48 some t51 none none : 24
    refine wpB_take (i := 5) (v := ?_) (get_of_drop rfl) (by kernel_rfl) (by kernel_rfl) (by kernel_rfl) (by kernel_rfl) (fun _ _ _ h => h) (Or.inl ⟨by rfl, ?_⟩) hHeld ?_
    rotate_left
    · (intro w hSw; (try dsimp only at hSw); go_simp <;> with_reducible rfl)
    try simp only [Act.put, List.setIfInBounds_toArray, List.set_cons_zero, List.set_cons_succ]
    -- 6: t53 := fieldAddr 41 t7 7 : 0
    refine wpB_take (i := 6) (v := ?_) (get_of_drop rfl) (by kernel_rfl) (by kernel_rfl) (by kernel_rfl) (by kernel_rfl) (fun _ _ _ h => h) (Or.inl ⟨by rfl, ?_⟩) hHeld ?_
    rotate_left
    · (intro w hSw; (try dsimp only at hSw); go_simp <;> with_reducible rfl)
    try simp only [Act.put, List.setIfInBounds_toArray, List.set_cons_zero, List.set_cons_succ]
    -- 7: t- := store 24 t53 t52 : 0 (BARRIER)
    refine wpB_bar (i := 7) (by kernel_rfl) (get_of_drop rfl) (by kernel_rfl) (fun K hK => ?_)
    go_simp
    refine hK.out _ _ (fun _ : World => True) ?_
    clear hHeld hK K
    have hHeld := trivial
    try simp only [Act.put, List.setIfInBounds_toArray, List.set_cons_zero, List.set_cons_succ]
    refine wpB_done (by kernel_rfl) ?_ _
    clear Y_7 y7 f7 hHeld hcut2 hwn
    obtain ⟨w10, hw10⟩ : ∃ q_, q_ = (w9.setCell ⟨b9, 7, none⟩ (.slice A' 1 c')).drew := ⟨_, rfl⟩
    rw [← hw10]
    have C10 := hid (show Chg (fun _ => False) w8 w10 by rw [hw10]; exact (C9.out.trans ((Chg.refl (fun j => j = b9) w9).set (p := ⟨b9, 7, none⟩) (fun _ => rfl) _) (fun j hj hl => by have := HB9.out; omega)).drew)
    have B10 := hid (show w10.heap[b9]? = some (.cells #[.int .i64 1, .int .i64 0, .int .i64 0, .int .i64 0, .int .i64 (n1 : Int), .int .i64 r.s.commit, .int .i64 0, .slice A' 1 c'] 41 (0, 0)) by rw [hw10]; exact blk_drew (blk_set B9.out 7 _))
    have H10 := hid (H8.out.far C10.out)
    have HM10 := hid (show Ty.At entryK w10 (Lg X (.slice none 0 0)) A' 1 c' [e2] by
      have h1 := HAT2.out _ _ _ H10.out.log
      rw [HLOG.out, List.drop_left' (L1.out.symm)] at h1
      exact h1)
    clear hw10
    have X_0 : w10.cell? ⟨b9, 0, none⟩ = some (.int .i64 1) := (cellAt B10.out 0).trans rfl
    have X_1 : w10.cell? ⟨b9, 1, none⟩ = some (.int .i64 0) := (cellAt B10.out 1).trans rfl
    have X_2 : w10.cell? ⟨b9, 2, none⟩ = some (.int .i64 0) := (cellAt B10.out 2).trans rfl
    have X_3 : w10.cell? ⟨b9, 3, none⟩ = some (.int .i64 0) := (cellAt B10.out 3).trans rfl
    have X_4 : w10.cell? ⟨b9, 4, none⟩ = some (.int .i64 (n1 : Int)) := (cellAt B10.out 4).trans rfl
    have X_5 : w10.cell? ⟨b9, 5, none⟩ = some (.int .i64 r.s.commit) := (cellAt B10.out 5).trans rfl
    have X_6 : w10.cell? ⟨b9, 6, none⟩ = some (.int .i64 0) := (cellAt B10.out 6).trans rfl
    have X_7 : w10.cell? ⟨b9, 7, none⟩ = some (.slice A' 1 c') := (cellAt B10.out 7).trans rfl
    go_wp2_with fail
    clear X_0 X_1 X_2 X_3 X_4 X_5 X_6 X_7
    refine (say_any (m := ⟨1, 0, 0, 0, (n1 : Int), r.s.commit, 0, [e2]⟩) (R := Lg X (.slice none 0 0)) H10.out (by rw [HRA.out]; exact HOK.out.cfg.1) HM10.out (fun j hj _ e => by rcases e with e | e; exact hj.1 (H10.out.sub.1 _ (.inl e)); exact hj.2 e) (by decide) (fits_right (fun x hx => by rw [List.mem_singleton.1 hx]; exact HER2.out)) ⟨show NumW 1 by decide, numW_of (by have := HN1.out; show _ ≤ (n1 : Int) ∧ (n1 : Int) ≤ _; omega), numW_of (by have := HST.out; show _ ≤ r.s.commit ∧ r.s.commit ≤ _; omega), show NumW 0 by decide⟩ ⟨by rw [HRA.out]; exact numW_of (by have := HST.out; show _ ≤ r.s.view ∧ r.s.view ≤ _; omega), by rw [HRA.out]; exact numW_of (by have := HOK.out.cfg; show _ ≤ r.id ∧ r.id ≤ _; omega)⟩ (by rw [HRA.out]; show r.out.length ≤ 900; rw [HO.out]; decide)).mono ?_
    rintro e' w11 ⟨O', rfl, h11, ho11, k11⟩
    have H11 := hid h11
    have K11 := hid k11
    clear h11 ho11 k11
    go_wp2_with fail
    refine (sent_any H11.out).mono ?_
    rintro e' w12 ⟨rfl, h12, hv12, k12⟩
    have H12 := hid h12
    have HV12 := hid hv12
    have K12 := hid k12
    clear h12 hv12 k12
    go_wp2_with fail
    go_ret2
    have e1 : submitR r e = (sayR ra ⟨1, 0, 0, 0, (n1 : Int), r.s.commit, 0, [e2]⟩, 0) := by
      unfold submitR
      rw [if_neg HR.out, if_neg HERN.out, if_neg HHD.out, if_neg HFL.out, HRA.out, HE2.out, show (r.s.log.length : Int) + 1 = (n1 : Int) by have h1 := HN1E.out; have h2 := L1.out; omega]
    rw [e1]
    refine ⟨_, rfl, ⟨_, _, _, H12.out⟩, HV12.out, no_own ?_⟩
    exact (((K8.out.mono (S' := fun j => M4 p b1 b2 b3 j ∨ (Value.slice none 0 0).ownBlock = some j) (fun j h _ => .inl (.inl h))).trans C10.out (fun _ h _ => h.elim)).trans K11.out (fun j hj _ => by rcases hj with h | h; exact .inl (.inl h); exact .inr h)).trans K12.out (fun j hj _ => .inl (.inl hj))
end Go.Proofs.Ytaldoajdhbndhaa.Pa
