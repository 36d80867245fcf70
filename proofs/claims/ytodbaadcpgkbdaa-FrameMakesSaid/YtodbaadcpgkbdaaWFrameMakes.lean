/- The walk of the law FrameMakes. -/
import Derived.Test.YtodbaadcpgkbdaaFrameM
namespace Go.Proofs.Ytodbaadcpgkbdaa.Fr
set_option linter.unusedVariables false
set_option linter.unusedSimpArgs false
open Go.RowKit Go.Proofs.Ytodbaadcpgkbdaa.C
attribute [local go_sem] max2_int min2_int max_two min_two

set_option maxRecDepth 100000 in
theorem makes_out (w : World) (A B : Option Addr) (n c m d : Nat) (b1 b2 b3 b4 : Bool) (e1 : decide ((3000 : Int) < (n : Int)) = b1) (e2 : decide ((n : Int) < 65536) = b2) (e3 : decide ((131072 : Int) < (n : Int)) = b3) (e4 : decide ((1000 : Int) < (m : Int)) = b4) (hb : (b1 && b2 || b3 || b4) = true) :
    Calls Try.prog 3 #[.slice A n c, .slice B m d] w fun e w' => e = .returned (.bool true) ∧ Below w.heap.size w w' := by
  cases b1 <;> cases b2 <;> cases b3 <;> cases b4 <;> simp at hb
  all_goals
    clear hb
    go_enter Try.func3, Try.ntmps3
    go_wp2_with fail
    refine (anchor_any w).mono ?_
    rintro e w1 ⟨rfl, hb1⟩
    go_wp2_with fail
    go_ret
    exact ⟨rfl, hb1⟩

set_option maxRecDepth 100000 in
theorem makes_big (w : World) (A B : Option Addr) (n c m d : Nat) (h1 : 65536 < n) (h2 : n ≤ 131072) (h3 : m ≤ 1000) :
    Calls Try.prog 3 #[.slice A n c, .slice B m d] w fun e w' => e = .returned (.bool true) ∧ Below w.heap.size w w' := by
  have g1 : (3000 : Int) < (n : Int) := by omega
  have g2 : ¬ (n : Int) < 65536 := by omega
  have g3 : ¬ (131072 : Int) < (n : Int) := by omega
  have g4 : ¬ (1000 : Int) < (m : Int) := by omega
  have g5 : (65536 : Int) < (n : Int) := by omega
  go_enter Try.func3, Try.ntmps3
  go_wp2_with fail
  refine (anchor_any w).mono ?_
  rintro e w1 ⟨rfl, hb1⟩
  go_wp2_with fail
  refine (make_no A n c w1 h1).mono ?_
  rintro e w2 ⟨rfl, rfl⟩
  go_wp2_with fail
  go_ret
  exact ⟨rfl, hb1⟩

set_option maxHeartbeats 4000000 in
set_option maxRecDepth 100000 in
theorem makes_in (w : World) (A B : Option Addr) (n c m d : Nat) (b r : List UInt8) (h : Ty.At Ty.u8 w (fun k => k < w.heap.size) A n c b) (hr : Ty.At Ty.u8 w (fun k => k < w.heap.size) B m d r) (hn : n ≤ 3000 ∨ n = 65536) (hm : m ≤ 1000) :
    Calls Try.prog 3 #[.slice A n c, .slice B m d] w fun e w' => e = .returned (.bool true) ∧ Below w.heap.size w w' := by
  have H := hid h
  have HR := hid hr
  have HN := hid h.1
  have HM := hid hr.1
  have g3 : ¬ (131072 : Int) < (n : Int) := by omega
  have g4 : ¬ (1000 : Int) < (m : Int) := by omega
  have g5 : ¬ (65536 : Int) < (n : Int) := by omega
  have G6 := hid (show n ≤ 65536 by omega)
  have HC := hid h.2.1
  have HD := hid hr.2.1
  have HMM := hid hm
  clear h hr hm
  rcases hn with hn | hn
  · have e1 : ¬ (3000 : Int) < (n : Int) := by omega
    clear hn
    go_enter Try.func3, Try.ntmps3
    go_wp2_with fail
    refine (anchor_any w).mono ?_
    rintro e w1 ⟨rfl, hb1⟩
    have HB1 := hid hb1
    clear hb1
    go_wp2_with fail
    have H1 := hid (H.out.new (Chg.of_below HB1.out))
    refine (make_any A n c b (fun k => k < w.heap.size) w1 H1.out G6.out).mono ?_
    rintro e w2 ⟨A2, c2, rfl, h2⟩
    have M2 := hid h2
    have hl : (FrameP.frame b).length = 10 + n := by rw [FrameP.frame_length, HN.out]
    have HL := hid hl
    have T2 := hid (own_At h2.1 hl)
    clear h2 hl
    go_wp2_with (first
      | (at_builtin; (
         refine app_list _ rfl (.tmp 46) (.tmp 47) 22 5 (.int .u8 0) 1 1 rfl Try.underlying22 info5 rfl (by decide) (by decide) (.slice (some ⟨w2.heap.size, 0, none⟩) 0 0) 0 [] rfl (lit_own w2 [] (by simp)) A2 (10 + n) c2 (u8s (FrameP.frame b)) _ rfl T2.out.2.2.2.1 T2.out.2.1 (by rw [u8s_length, HL.out]; omega) (T2.out.bytes.chg ((Chg.refl (fun _ => False) w2).alloc _) (fun _ _ h => h)) (u8s_one _) (by have := G6.out; have := HMM.out; omega) ?_
         intro A3 c3 w3 h1 h2 h3
         rw [Nat.zero_add] at h1 h3
         have G1 := hid h1
         have G2 := hid h2
         have G3 := hid h3
         have C3 := hid (show Chg (fun _ => False) w2 w3 from ((Chg.refl (fun _ => False) w2).alloc _).trans h2 (fun k hk hlt => by simp [Value.ownBlock] at hk; omega))
         have F3 := hid (show ∀ k, (Value.slice A3 (10 + n) c3).ownBlock = some k → w2.heap.size ≤ k from fun k hk => by
           rcases h3 k hk with h | h
           · simp [Value.ownBlock] at h; omega
           · simp at h; omega)
         clear h1 h2 h3))
      | (at_builtin; (
         refine app_list _ rfl (.tmp 48) (.tmp 49) 22 5 (.int .u8 0) 1 1 rfl Try.underlying22 info5 rfl (by decide) (by decide) (.slice A3 (10 + n) c3) (10 + n) _ rfl G1.out B m d (u8s r) _ rfl HR.out.2.2.2.1 HD.out (by rw [u8s_length, HM.out]; omega) ((((HR.out.new (Chg.of_below HB1.out)).chg M2.out.2.1 (fun _ _ h => h)).chg C3.out (fun _ _ h => h)).bytes) (u8s_one _) (by have := G6.out; have := HMM.out; omega) ?_
         intro A4 c4 w4 h1 h2 h3
         have K1 := hid h1
         have K2 := hid h2
         have K3 := hid h3
         have C4 := hid (show Chg (fun _ => False) w2 w4 from C3.out.trans h2 (fun k hk hlt => by have := F3.out k hk; omega))
         clear h1 h2 h3)))
    have at4 := hid (show Ty.At Ty.u8 w4 (fun k => (Value.slice A4 (10 + n + m) c4).ownBlock = some k) A4 (10 + n + m) c4 (FrameP.frame b ++ r) from by
      have k1 := K1.out
      rw [List.nil_append, ← u8s_append] at k1
      exact own_At k1 rfl)
    have RD := hid (FrameP.read_frame b r (by rw [← HN.out]; exact G6.out))
    refine (read_any A4 (10 + n + m) c4 _ _ w4 at4.out).mono ?_
    rintro e w5 ⟨A5, c5, he, h5, hc5, hf5⟩
    rw [RD.out] at he h5
    simp only at he h5
    have sz : sizeOf (FrameP.frame b ++ r) = 10 + n := by unfold sizeOf; rw [RD.out]; simp [HN.out]
    rw [sz, ← HN.out] at he
    subst he
    have R5 := hid h5
    have C5 := hid hc5
    clear h5 hc5 hf5 sz
    go_wp2_with fail
    have C25 := hid (show Chg (fun _ => False) w2 w5 from C4.out.trans C5.out (fun _ h _ => h))
    have Q0 := hid (show ∀ wx, Chg (fun _ => False) w5 wx → Ty.At Ty.u8 wx (fun k => k < w.heap.size) A n c b from fun wx hx => (H1.out.chg (M2.out.2.1.trans (C25.out.trans hx (fun _ h _ => h)) (fun _ h _ => h)) (fun _ _ h => h)))
    have Q2 := hid (show ∀ wx, Chg (fun _ => False) w5 wx → Ty.At Ty.u8 wx _ A2 (10 + n) c2 (FrameP.frame b) from fun wx hx => (T2.out.chg (C25.out.trans hx (fun _ h _ => h)) (fun _ _ h => h)))
    have Q5 := hid (show ∀ wx, Chg (fun _ => False) w5 wx → Ty.At Ty.u8 wx _ A5 n c5 b from fun wx hx => ((own_At (A := A5) (n := n) (c := c5) (m := b.length) (by have := R5.out; rwa [← HN.out] at this ⊢) HN.out.symm).chg hx (fun _ _ h => h)))
    have D5 := hid (show Chg (fun _ => False) w5 w5.drew from (Chg.refl _ _).drew)
    have hs1 := fun wx h => at_str (Q2.out wx h)
    have hs3 := fun wx h => at_str (Q5.out wx h)
    have hs4 := fun wx h => at_str (Q0.out wx h)
    have BEL := hid (show Below w.heap.size w w5 from HB1.out.trans ((M2.out.2.1.trans C25.out (fun _ h _ => h)).below HB1.out.size (fun _ h => h.elim)))
    refine wp_region_held_drew (S := (fun wx : World => Chg (fun _ => False) w5 wx)) (by kernel_rfl) ?_ (fun hHeld => ?_)
    · (first | assumption | exact D5.out | exact E6.out)
    -- 0: t55 := move t6 : 24
    refine wpAnyH_take (i := 0) (v := ?_) (get_of_drop rfl) (by kernel_rfl) (by kernel_rfl) (by kernel_rfl) (fun _ _ _ h => h) (Or.inl ⟨by rfl, ?_⟩) (by assumption) ?_
    rotate_left
    · (intro w hSw; (try dsimp only at hSw); go_simp <;> with_reducible rfl)
    try simp only [Act.put, List.setIfInBounds_toArray, List.set_cons_zero, List.set_cons_succ]
    -- 1: t56 := binOp BinOp.eql 24 t55 #i64:0 24 : 4
    refine wpAnyH_take (i := 1) (v := ?_) (get_of_drop rfl) (by kernel_rfl) (by kernel_rfl) (by kernel_rfl) (fun _ _ _ h => h) (Or.inl ⟨by rfl, ?_⟩) (by assumption) ?_
    rotate_left
    · (intro w hSw; (try dsimp only at hSw); go_simp <;> with_reducible rfl)
    try simp only [Act.put, List.setIfInBounds_toArray, List.set_cons_zero, List.set_cons_succ]
    -- 2: t57 := move t56 : 4
    refine wpAnyH_take (i := 2) (v := ?_) (get_of_drop rfl) (by kernel_rfl) (by kernel_rfl) (by kernel_rfl) (fun _ _ _ h => h) (Or.inl ⟨by rfl, ?_⟩) (by assumption) ?_
    rotate_left
    · (intro w hSw; (try dsimp only at hSw); go_simp <;> with_reducible rfl)
    try simp only [Act.put, List.setIfInBounds_toArray, List.set_cons_zero, List.set_cons_succ]
    -- 3: t58 := move t0 : 22   [if ⟨2, true⟩]
    refine wpAnyH_take (i := 3) (v := ?_) (get_of_drop rfl) (by kernel_rfl) (by kernel_rfl) (by kernel_rfl) (fun _ _ _ h => h) (Or.inl ⟨by rfl, ?_⟩) (by assumption) ?_
    rotate_left
    · (intro w hSw; (try dsimp only at hSw); go_simp <;> with_reducible rfl)
    try simp only [Act.put, List.setIfInBounds_toArray, List.set_cons_zero, List.set_cons_succ]
    -- 5: t60 := move t0 : 22   [if ⟨2, true⟩]
    refine wpAnyH_take (i := 5) (v := ?_) (get_of_drop rfl) (by kernel_rfl) (by kernel_rfl) (by kernel_rfl) (fun _ _ _ h => h) (Or.inl ⟨by rfl, ?_⟩) (by assumption) ?_
    rotate_left
    · (intro w hSw; (try dsimp only at hSw); go_simp <;> with_reducible rfl)
    try simp only [Act.put, List.setIfInBounds_toArray, List.set_cons_zero, List.set_cons_succ]
    -- 4: t59 := CALL fn12(t58) : 3   [if ⟨2, true⟩]
    refine wpAnyH_ready (rs := [4]) (by kernel_rfl) (by simp) ?_
    refine AllReadyH.cons (get_of_drop rfl) (fun K hK => ?_) AllReadyH.nil
    go_simp
    go_at_call 12
    refine (sum_any A n c b _ _ (Q0.out _ D5.out)).mono ?_
    rintro e wx ⟨rfl, rfl⟩
    go_wp2_with fail
    refine hK.out _ _ ?_ (fun hHeld => ?_)
    · (first | assumption | exact D5.out | exact E6.out)
    clear hK K
    try simp only [Act.put, List.setIfInBounds_toArray, List.set_cons_zero, List.set_cons_succ]
    -- 6: t61 := CALL fn13(t60) : 3   [if ⟨2, true⟩]
    refine wpAnyH_ready (rs := [6]) (by kernel_rfl) (by simp) ?_
    refine AllReadyH.cons (get_of_drop rfl) (fun K hK => ?_) AllReadyH.nil
    go_simp
    go_at_call 13
    refine (refsum_any A n c b _ _ (Q0.out _ D5.out)).mono ?_
    rintro e wx ⟨rfl, rfl⟩
    go_wp2_with fail
    refine hK.out _ _ ?_ (fun hHeld => ?_)
    · (first | assumption | exact D5.out | exact E6.out)
    clear hK K
    try simp only [Act.put, List.setIfInBounds_toArray, List.set_cons_zero, List.set_cons_succ]
    -- 7: t62 := binOp BinOp.eql 3 t59 t61 3 : 4   [if ⟨2, true⟩]
    refine wpAnyH_take (i := 7) (v := ?_) (get_of_drop rfl) (by kernel_rfl) (by kernel_rfl) (by kernel_rfl) (fun _ _ _ h => h) (Or.inl ⟨by rfl, ?_⟩) (by assumption) ?_
    rotate_left
    · (intro w hSw; (try dsimp only at hSw); go_simp <;> with_reducible rfl)
    try simp only [Act.put, List.setIfInBounds_toArray, List.set_cons_zero, List.set_cons_succ]
    -- 8: t63 := pick t57 t62 #false : 4
    refine wpAnyH_take (i := 8) (v := ?_) (get_of_drop rfl) (by kernel_rfl) (by kernel_rfl) (by kernel_rfl) (fun _ _ _ h => h) (Or.inl ⟨by rfl, ?_⟩) (by assumption) ?_
    rotate_left
    · (intro w hSw; (try dsimp only at hSw); go_simp <;> with_reducible rfl)
    try simp only [Act.put, List.setIfInBounds_toArray, List.set_cons_zero, List.set_cons_succ]
    -- 9: t64 := move t63 : 4
    refine wpAnyH_take (i := 9) (v := ?_) (get_of_drop rfl) (by kernel_rfl) (by kernel_rfl) (by kernel_rfl) (fun _ _ _ h => h) (Or.inl ⟨by rfl, ?_⟩) (by assumption) ?_
    rotate_left
    · (intro w hSw; (try dsimp only at hSw); go_simp <;> with_reducible rfl)
    try simp only [Act.put, List.setIfInBounds_toArray, List.set_cons_zero, List.set_cons_succ]
    -- 10: t65 := move t5 : 22   [if ⟨9, true⟩]
    refine wpAnyH_take (i := 10) (v := ?_) (get_of_drop rfl) (by kernel_rfl) (by kernel_rfl) (by kernel_rfl) (fun _ _ _ h => h) (Or.inl ⟨by rfl, ?_⟩) (by assumption) ?_
    rotate_left
    · (intro w hSw; (try dsimp only at hSw); go_simp <;> with_reducible rfl)
    try simp only [Act.put, List.setIfInBounds_toArray, List.set_cons_zero, List.set_cons_succ]
    -- 11: t66 := convert 22 9 t65 : 9   [if ⟨9, true⟩]
    refine wpAnyH_take (i := 11) (v := ?_) (get_of_drop rfl) (by kernel_rfl) (by kernel_rfl) (by kernel_rfl) (fun _ _ _ h => h) (Or.inl ⟨by rfl, ?_⟩) (by assumption) ?_
    rotate_left
    · (intro w hSw; (try dsimp only at hSw); go_simp <;> with_reducible rfl)
    try simp only [Act.put, List.setIfInBounds_toArray, List.set_cons_zero, List.set_cons_succ]
    -- 12: t67 := move t0 : 22   [if ⟨9, true⟩]
    refine wpAnyH_take (i := 12) (v := ?_) (get_of_drop rfl) (by kernel_rfl) (by kernel_rfl) (by kernel_rfl) (fun _ _ _ h => h) (Or.inl ⟨by rfl, ?_⟩) (by assumption) ?_
    rotate_left
    · (intro w hSw; (try dsimp only at hSw); go_simp <;> with_reducible rfl)
    try simp only [Act.put, List.setIfInBounds_toArray, List.set_cons_zero, List.set_cons_succ]
    -- 13: t68 := CALL fn14(t67) : 22   [if ⟨9, true⟩]
    refine wpAnyH_ready (rs := [13]) (by kernel_rfl) (by simp) ?_
    refine AllReadyH.cons (get_of_drop rfl) (fun K hK => ?_) AllReadyH.nil
    go_simp
    go_at_call 14
    refine (refmake_any A n c b _ _ (Q0.out _ D5.out) G6.out).mono ?_
    rintro e w6 ⟨A6, c6, rfl, h6⟩
    have D6 := D5.out.trans h6.2.1 (fun _ h _ => h)
    have E6 := hid D6
    have ht2 := at_str (own_At h6.1 HL.out)
    clear h6
    go_wp2_with fail
    refine hK.out _ _ ?_ (fun hHeld => ?_)
    · (first | assumption | exact D5.out | exact E6.out)
    clear hK K
    try simp only [Act.put, List.setIfInBounds_toArray, List.set_cons_zero, List.set_cons_succ]
    -- 14: t69 := convert 22 9 t68 : 9   [if ⟨9, true⟩]
    refine wpAnyH_ready (rs := [14]) (by kernel_rfl) (by simp) ?_
    refine AllReadyH.cons (get_of_drop rfl) (fun K hK => ?_) AllReadyH.nil
    go_simp
    refine hK.out _ _ ?_ (fun hHeld => ?_)
    · (first | assumption | exact D5.out | exact E6.out)
    clear hK K
    try simp only [Act.put, List.setIfInBounds_toArray, List.set_cons_zero, List.set_cons_succ]
    -- 15: t70 := binOp BinOp.eql 9 t66 t69 9 : 4   [if ⟨9, true⟩]
    refine wpAnyH_take (i := 15) (v := ?_) (get_of_drop rfl) (by kernel_rfl) (by kernel_rfl) (by kernel_rfl) (fun _ _ _ h => h) (Or.inl ⟨by rfl, ?_⟩) (by assumption) ?_
    rotate_left
    · (intro w hSw; (try dsimp only at hSw); go_simp <;> with_reducible rfl)
    try simp only [Act.put, List.setIfInBounds_toArray, List.set_cons_zero, List.set_cons_succ]
    -- 16: t71 := pick t64 t70 #false : 4
    refine wpAnyH_take (i := 16) (v := ?_) (get_of_drop rfl) (by kernel_rfl) (by kernel_rfl) (by kernel_rfl) (fun _ _ _ h => h) (Or.inl ⟨by rfl, ?_⟩) (by assumption) ?_
    rotate_left
    · (intro w hSw; (try dsimp only at hSw); go_simp <;> with_reducible rfl)
    try simp only [Act.put, List.setIfInBounds_toArray, List.set_cons_zero, List.set_cons_succ]
    -- 17: t72 := move t71 : 4
    refine wpAnyH_take (i := 17) (v := ?_) (get_of_drop rfl) (by kernel_rfl) (by kernel_rfl) (by kernel_rfl) (fun _ _ _ h => h) (Or.inl ⟨by rfl, ?_⟩) (by assumption) ?_
    rotate_left
    · (intro w hSw; (try dsimp only at hSw); go_simp <;> with_reducible rfl)
    try simp only [Act.put, List.setIfInBounds_toArray, List.set_cons_zero, List.set_cons_succ]
    -- 18: t73 := move t9 : 24   [if ⟨17, true⟩]
    refine wpAnyH_take (i := 18) (v := ?_) (get_of_drop rfl) (by kernel_rfl) (by kernel_rfl) (by kernel_rfl) (fun _ _ _ h => h) (Or.inl ⟨by rfl, ?_⟩) (by assumption) ?_
    rotate_left
    · (intro w hSw; (try dsimp only at hSw); go_simp <;> with_reducible rfl)
    try simp only [Act.put, List.setIfInBounds_toArray, List.set_cons_zero, List.set_cons_succ]
    -- 19: t74 := binOp BinOp.eql 24 t73 #i64:0 24 : 4   [if ⟨17, true⟩]
    refine wpAnyH_take (i := 19) (v := ?_) (get_of_drop rfl) (by kernel_rfl) (by kernel_rfl) (by kernel_rfl) (fun _ _ _ h => h) (Or.inl ⟨by rfl, ?_⟩) (by assumption) ?_
    rotate_left
    · (intro w hSw; (try dsimp only at hSw); go_simp <;> with_reducible rfl)
    try simp only [Act.put, List.setIfInBounds_toArray, List.set_cons_zero, List.set_cons_succ]
    -- 20: t75 := pick t72 t74 #false : 4
    refine wpAnyH_take (i := 20) (v := ?_) (get_of_drop rfl) (by kernel_rfl) (by kernel_rfl) (by kernel_rfl) (fun _ _ _ h => h) (Or.inl ⟨by rfl, ?_⟩) (by assumption) ?_
    rotate_left
    · (intro w hSw; (try dsimp only at hSw); go_simp <;> with_reducible rfl)
    try simp only [Act.put, List.setIfInBounds_toArray, List.set_cons_zero, List.set_cons_succ]
    -- 21: t76 := move t75 : 4
    refine wpAnyH_take (i := 21) (v := ?_) (get_of_drop rfl) (by kernel_rfl) (by kernel_rfl) (by kernel_rfl) (fun _ _ _ h => h) (Or.inl ⟨by rfl, ?_⟩) (by assumption) ?_
    rotate_left
    · (intro w hSw; (try dsimp only at hSw); go_simp <;> with_reducible rfl)
    try simp only [Act.put, List.setIfInBounds_toArray, List.set_cons_zero, List.set_cons_succ]
    -- 22: t77 := move t7 : 22   [if ⟨21, true⟩]
    refine wpAnyH_take (i := 22) (v := ?_) (get_of_drop rfl) (by kernel_rfl) (by kernel_rfl) (by kernel_rfl) (fun _ _ _ h => h) (Or.inl ⟨by rfl, ?_⟩) (by assumption) ?_
    rotate_left
    · (intro w hSw; (try dsimp only at hSw); go_simp <;> with_reducible rfl)
    try simp only [Act.put, List.setIfInBounds_toArray, List.set_cons_zero, List.set_cons_succ]
    -- 23: t78 := convert 22 9 t77 : 9   [if ⟨21, true⟩]
    refine wpAnyH_take (i := 23) (v := ?_) (get_of_drop rfl) (by kernel_rfl) (by kernel_rfl) (by kernel_rfl) (fun _ _ _ h => h) (Or.inl ⟨by rfl, ?_⟩) (by assumption) ?_
    rotate_left
    · (intro w hSw; (try dsimp only at hSw); go_simp <;> with_reducible rfl)
    try simp only [Act.put, List.setIfInBounds_toArray, List.set_cons_zero, List.set_cons_succ]
    -- 24: t79 := move t0 : 22   [if ⟨21, true⟩]
    refine wpAnyH_take (i := 24) (v := ?_) (get_of_drop rfl) (by kernel_rfl) (by kernel_rfl) (by kernel_rfl) (fun _ _ _ h => h) (Or.inl ⟨by rfl, ?_⟩) (by assumption) ?_
    rotate_left
    · (intro w hSw; (try dsimp only at hSw); go_simp <;> with_reducible rfl)
    try simp only [Act.put, List.setIfInBounds_toArray, List.set_cons_zero, List.set_cons_succ]
    -- 25: t80 := convert 22 9 t79 : 9   [if ⟨21, true⟩]
    refine wpAnyH_take (i := 25) (v := ?_) (get_of_drop rfl) (by kernel_rfl) (by kernel_rfl) (by kernel_rfl) (fun _ _ _ h => h) (Or.inl ⟨by rfl, ?_⟩) (by assumption) ?_
    rotate_left
    · (intro w hSw; (try dsimp only at hSw); go_simp <;> with_reducible rfl)
    try simp only [Act.put, List.setIfInBounds_toArray, List.set_cons_zero, List.set_cons_succ]
    -- 26: t81 := binOp BinOp.eql 9 t78 t80 9 : 4   [if ⟨21, true⟩]
    refine wpAnyH_take (i := 26) (v := ?_) (get_of_drop rfl) (by kernel_rfl) (by kernel_rfl) (by kernel_rfl) (fun _ _ _ h => h) (Or.inl ⟨by rfl, ?_⟩) (by assumption) ?_
    rotate_left
    · (intro w hSw; (try dsimp only at hSw); go_simp <;> with_reducible rfl)
    try simp only [Act.put, List.setIfInBounds_toArray, List.set_cons_zero, List.set_cons_succ]
    -- 27: t82 := pick t76 t81 #false : 4
    refine wpAnyH_take (i := 27) (v := ?_) (get_of_drop rfl) (by kernel_rfl) (by kernel_rfl) (by kernel_rfl) (fun _ _ _ h => h) (Or.inl ⟨by rfl, ?_⟩) (by assumption) ?_
    rotate_left
    · (intro w hSw; (try dsimp only at hSw); go_simp <;> with_reducible rfl)
    try simp only [Act.put, List.setIfInBounds_toArray, List.set_cons_zero, List.set_cons_succ]
    -- 28: t83 := move t82 : 4
    refine wpAnyH_take (i := 28) (v := ?_) (get_of_drop rfl) (by kernel_rfl) (by kernel_rfl) (by kernel_rfl) (fun _ _ _ h => h) (Or.inl ⟨by rfl, ?_⟩) (by assumption) ?_
    rotate_left
    · (intro w hSw; (try dsimp only at hSw); go_simp <;> with_reducible rfl)
    try simp only [Act.put, List.setIfInBounds_toArray, List.set_cons_zero, List.set_cons_succ]
    -- 29: t84 := move t8 : 3   [if ⟨28, true⟩]
    refine wpAnyH_take (i := 29) (v := ?_) (get_of_drop rfl) (by kernel_rfl) (by kernel_rfl) (by kernel_rfl) (fun _ _ _ h => h) (Or.inl ⟨by rfl, ?_⟩) (by assumption) ?_
    rotate_left
    · (intro w hSw; (try dsimp only at hSw); go_simp <;> with_reducible rfl)
    try simp only [Act.put, List.setIfInBounds_toArray, List.set_cons_zero, List.set_cons_succ]
    -- 30: t85 := move t5 : 22   [if ⟨28, true⟩]
    refine wpAnyH_take (i := 30) (v := ?_) (get_of_drop rfl) (by kernel_rfl) (by kernel_rfl) (by kernel_rfl) (fun _ _ _ h => h) (Or.inl ⟨by rfl, ?_⟩) (by assumption) ?_
    rotate_left
    · (intro w hSw; (try dsimp only at hSw); go_simp <;> with_reducible rfl)
    try simp only [Act.put, List.setIfInBounds_toArray, List.set_cons_zero, List.set_cons_succ]
    -- 31: t86 := len(t85) types [22] : 3   [if ⟨28, true⟩]
    refine wpAnyH_take (i := 31) (v := ?_) (get_of_drop rfl) (by kernel_rfl) (by kernel_rfl) (by kernel_rfl) (fun _ _ _ h => h) (Or.inl ⟨by rfl, ?_⟩) (by assumption) ?_
    rotate_left
    · (intro w hSw; (try dsimp only at hSw); go_simp <;> with_reducible rfl)
    try simp only [Act.put, List.setIfInBounds_toArray, List.set_cons_zero, List.set_cons_succ]
    -- 32: t87 := binOp BinOp.eql 3 t84 t86 3 : 4   [if ⟨28, true⟩]
    refine wpAnyH_take (i := 32) (v := ?_) (get_of_drop rfl) (by kernel_rfl) (by kernel_rfl) (by kernel_rfl) (fun _ _ _ h => h) (Or.inl ⟨by rfl, ?_⟩) (by assumption) ?_
    rotate_left
    · (intro w hSw; (try dsimp only at hSw); go_simp <;> with_reducible rfl)
    try simp only [Act.put, List.setIfInBounds_toArray, List.set_cons_zero, List.set_cons_succ]
    -- 33: t88 := pick t83 t87 #false : 4
    refine wpAnyH_take (i := 33) (v := ?_) (get_of_drop rfl) (by kernel_rfl) (by kernel_rfl) (by kernel_rfl) (fun _ _ _ h => h) (Or.inl ⟨by rfl, ?_⟩) (by assumption) ?_
    rotate_left
    · (intro w hSw; (try dsimp only at hSw); go_simp <;> with_reducible rfl)
    try simp only [Act.put, List.setIfInBounds_toArray, List.set_cons_zero, List.set_cons_succ]
    -- 34: t4 := assign t88 : 4
    refine wpAnyH_take (i := 34) (v := ?_) (get_of_drop rfl) (by kernel_rfl) (by kernel_rfl) (by kernel_rfl) (fun _ _ _ h => h) (Or.inl ⟨by rfl, ?_⟩) (by assumption) ?_
    rotate_left
    · (intro w hSw; (try dsimp only at hSw); go_simp <;> with_reducible rfl)
    try simp only [Act.put, List.setIfInBounds_toArray, List.set_cons_zero, List.set_cons_succ]
    refine wpAnyH_done (by kernel_rfl) ?_ _
    go_wp2
    go_ret
    exact ⟨rfl, BEL.out.trans (E6.out.below BEL.out.size (fun _ h => h.elim))⟩
  · have e1 : (3000 : Int) < (n : Int) := by omega
    have e2 : ¬ (n : Int) < 65536 := by omega
    clear hn
    go_enter Try.func3, Try.ntmps3
    go_wp2_with fail
    refine (anchor_any w).mono ?_
    rintro e w1 ⟨rfl, hb1⟩
    have HB1 := hid hb1
    clear hb1
    go_wp2_with fail
    have H1 := hid (H.out.new (Chg.of_below HB1.out))
    refine (make_any A n c b (fun k => k < w.heap.size) w1 H1.out G6.out).mono ?_
    rintro e w2 ⟨A2, c2, rfl, h2⟩
    have M2 := hid h2
    have hl : (FrameP.frame b).length = 10 + n := by rw [FrameP.frame_length, HN.out]
    have HL := hid hl
    have T2 := hid (own_At h2.1 hl)
    clear h2 hl
    go_wp2_with (first
      | (at_builtin; (
         refine app_list _ rfl (.tmp 46) (.tmp 47) 22 5 (.int .u8 0) 1 1 rfl Try.underlying22 info5 rfl (by decide) (by decide) (.slice (some ⟨w2.heap.size, 0, none⟩) 0 0) 0 [] rfl (lit_own w2 [] (by simp)) A2 (10 + n) c2 (u8s (FrameP.frame b)) _ rfl T2.out.2.2.2.1 T2.out.2.1 (by rw [u8s_length, HL.out]; omega) (T2.out.bytes.chg ((Chg.refl (fun _ => False) w2).alloc _) (fun _ _ h => h)) (u8s_one _) (by have := G6.out; have := HMM.out; omega) ?_
         intro A3 c3 w3 h1 h2 h3
         rw [Nat.zero_add] at h1 h3
         have G1 := hid h1
         have G2 := hid h2
         have G3 := hid h3
         have C3 := hid (show Chg (fun _ => False) w2 w3 from ((Chg.refl (fun _ => False) w2).alloc _).trans h2 (fun k hk hlt => by simp [Value.ownBlock] at hk; omega))
         have F3 := hid (show ∀ k, (Value.slice A3 (10 + n) c3).ownBlock = some k → w2.heap.size ≤ k from fun k hk => by
           rcases h3 k hk with h | h
           · simp [Value.ownBlock] at h; omega
           · simp at h; omega)
         clear h1 h2 h3))
      | (at_builtin; (
         refine app_list _ rfl (.tmp 48) (.tmp 49) 22 5 (.int .u8 0) 1 1 rfl Try.underlying22 info5 rfl (by decide) (by decide) (.slice A3 (10 + n) c3) (10 + n) _ rfl G1.out B m d (u8s r) _ rfl HR.out.2.2.2.1 HD.out (by rw [u8s_length, HM.out]; omega) ((((HR.out.new (Chg.of_below HB1.out)).chg M2.out.2.1 (fun _ _ h => h)).chg C3.out (fun _ _ h => h)).bytes) (u8s_one _) (by have := G6.out; have := HMM.out; omega) ?_
         intro A4 c4 w4 h1 h2 h3
         have K1 := hid h1
         have K2 := hid h2
         have K3 := hid h3
         have C4 := hid (show Chg (fun _ => False) w2 w4 from C3.out.trans h2 (fun k hk hlt => by have := F3.out k hk; omega))
         clear h1 h2 h3)))
    have at4 := hid (show Ty.At Ty.u8 w4 (fun k => (Value.slice A4 (10 + n + m) c4).ownBlock = some k) A4 (10 + n + m) c4 (FrameP.frame b ++ r) from by
      have k1 := K1.out
      rw [List.nil_append, ← u8s_append] at k1
      exact own_At k1 rfl)
    have RD := hid (FrameP.read_frame b r (by rw [← HN.out]; exact G6.out))
    refine (read_any A4 (10 + n + m) c4 _ _ w4 at4.out).mono ?_
    rintro e w5 ⟨A5, c5, he, h5, hc5, hf5⟩
    rw [RD.out] at he h5
    simp only at he h5
    have sz : sizeOf (FrameP.frame b ++ r) = 10 + n := by unfold sizeOf; rw [RD.out]; simp [HN.out]
    rw [sz, ← HN.out] at he
    subst he
    have R5 := hid h5
    have C5 := hid hc5
    clear h5 hc5 hf5 sz
    go_wp2_with fail
    have C25 := hid (show Chg (fun _ => False) w2 w5 from C4.out.trans C5.out (fun _ h _ => h))
    have Q0 := hid (show ∀ wx, Chg (fun _ => False) w5 wx → Ty.At Ty.u8 wx (fun k => k < w.heap.size) A n c b from fun wx hx => (H1.out.chg (M2.out.2.1.trans (C25.out.trans hx (fun _ h _ => h)) (fun _ h _ => h)) (fun _ _ h => h)))
    have Q2 := hid (show ∀ wx, Chg (fun _ => False) w5 wx → Ty.At Ty.u8 wx _ A2 (10 + n) c2 (FrameP.frame b) from fun wx hx => (T2.out.chg (C25.out.trans hx (fun _ h _ => h)) (fun _ _ h => h)))
    have Q5 := hid (show ∀ wx, Chg (fun _ => False) w5 wx → Ty.At Ty.u8 wx _ A5 n c5 b from fun wx hx => ((own_At (A := A5) (n := n) (c := c5) (m := b.length) (by have := R5.out; rwa [← HN.out] at this ⊢) HN.out.symm).chg hx (fun _ _ h => h)))
    have D5 := hid (show Chg (fun _ => False) w5 w5.drew from (Chg.refl _ _).drew)
    have hs1 := fun wx h => at_str (Q2.out wx h)
    have hs3 := fun wx h => at_str (Q5.out wx h)
    have hs4 := fun wx h => at_str (Q0.out wx h)
    have BEL := hid (show Below w.heap.size w w5 from HB1.out.trans ((M2.out.2.1.trans C25.out (fun _ h _ => h)).below HB1.out.size (fun _ h => h.elim)))
    refine wp_region_held_drew (S := (fun wx : World => Chg (fun _ => False) w5 wx)) (by kernel_rfl) ?_ (fun hHeld => ?_)
    · (first | assumption | exact D5.out | exact E6.out)
    -- 0: t55 := move t6 : 24
    refine wpAnyH_take (i := 0) (v := ?_) (get_of_drop rfl) (by kernel_rfl) (by kernel_rfl) (by kernel_rfl) (fun _ _ _ h => h) (Or.inl ⟨by rfl, ?_⟩) (by assumption) ?_
    rotate_left
    · (intro w hSw; (try dsimp only at hSw); go_simp <;> with_reducible rfl)
    try simp only [Act.put, List.setIfInBounds_toArray, List.set_cons_zero, List.set_cons_succ]
    -- 1: t56 := binOp BinOp.eql 24 t55 #i64:0 24 : 4
    refine wpAnyH_take (i := 1) (v := ?_) (get_of_drop rfl) (by kernel_rfl) (by kernel_rfl) (by kernel_rfl) (fun _ _ _ h => h) (Or.inl ⟨by rfl, ?_⟩) (by assumption) ?_
    rotate_left
    · (intro w hSw; (try dsimp only at hSw); go_simp <;> with_reducible rfl)
    try simp only [Act.put, List.setIfInBounds_toArray, List.set_cons_zero, List.set_cons_succ]
    -- 2: t57 := move t56 : 4
    refine wpAnyH_take (i := 2) (v := ?_) (get_of_drop rfl) (by kernel_rfl) (by kernel_rfl) (by kernel_rfl) (fun _ _ _ h => h) (Or.inl ⟨by rfl, ?_⟩) (by assumption) ?_
    rotate_left
    · (intro w hSw; (try dsimp only at hSw); go_simp <;> with_reducible rfl)
    try simp only [Act.put, List.setIfInBounds_toArray, List.set_cons_zero, List.set_cons_succ]
    -- 3: t58 := move t0 : 22   [if ⟨2, true⟩]
    refine wpAnyH_take (i := 3) (v := ?_) (get_of_drop rfl) (by kernel_rfl) (by kernel_rfl) (by kernel_rfl) (fun _ _ _ h => h) (Or.inl ⟨by rfl, ?_⟩) (by assumption) ?_
    rotate_left
    · (intro w hSw; (try dsimp only at hSw); go_simp <;> with_reducible rfl)
    try simp only [Act.put, List.setIfInBounds_toArray, List.set_cons_zero, List.set_cons_succ]
    -- 5: t60 := move t0 : 22   [if ⟨2, true⟩]
    refine wpAnyH_take (i := 5) (v := ?_) (get_of_drop rfl) (by kernel_rfl) (by kernel_rfl) (by kernel_rfl) (fun _ _ _ h => h) (Or.inl ⟨by rfl, ?_⟩) (by assumption) ?_
    rotate_left
    · (intro w hSw; (try dsimp only at hSw); go_simp <;> with_reducible rfl)
    try simp only [Act.put, List.setIfInBounds_toArray, List.set_cons_zero, List.set_cons_succ]
    -- 4: t59 := CALL fn12(t58) : 3   [if ⟨2, true⟩]
    refine wpAnyH_ready (rs := [4]) (by kernel_rfl) (by simp) ?_
    refine AllReadyH.cons (get_of_drop rfl) (fun K hK => ?_) AllReadyH.nil
    go_simp
    go_at_call 12
    refine (sum_any A n c b _ _ (Q0.out _ D5.out)).mono ?_
    rintro e wx ⟨rfl, rfl⟩
    go_wp2_with fail
    refine hK.out _ _ ?_ (fun hHeld => ?_)
    · (first | assumption | exact D5.out | exact E6.out)
    clear hK K
    try simp only [Act.put, List.setIfInBounds_toArray, List.set_cons_zero, List.set_cons_succ]
    -- 6: t61 := CALL fn13(t60) : 3   [if ⟨2, true⟩]
    refine wpAnyH_ready (rs := [6]) (by kernel_rfl) (by simp) ?_
    refine AllReadyH.cons (get_of_drop rfl) (fun K hK => ?_) AllReadyH.nil
    go_simp
    go_at_call 13
    refine (refsum_any A n c b _ _ (Q0.out _ D5.out)).mono ?_
    rintro e wx ⟨rfl, rfl⟩
    go_wp2_with fail
    refine hK.out _ _ ?_ (fun hHeld => ?_)
    · (first | assumption | exact D5.out | exact E6.out)
    clear hK K
    try simp only [Act.put, List.setIfInBounds_toArray, List.set_cons_zero, List.set_cons_succ]
    -- 7: t62 := binOp BinOp.eql 3 t59 t61 3 : 4   [if ⟨2, true⟩]
    refine wpAnyH_take (i := 7) (v := ?_) (get_of_drop rfl) (by kernel_rfl) (by kernel_rfl) (by kernel_rfl) (fun _ _ _ h => h) (Or.inl ⟨by rfl, ?_⟩) (by assumption) ?_
    rotate_left
    · (intro w hSw; (try dsimp only at hSw); go_simp <;> with_reducible rfl)
    try simp only [Act.put, List.setIfInBounds_toArray, List.set_cons_zero, List.set_cons_succ]
    -- 8: t63 := pick t57 t62 #false : 4
    refine wpAnyH_take (i := 8) (v := ?_) (get_of_drop rfl) (by kernel_rfl) (by kernel_rfl) (by kernel_rfl) (fun _ _ _ h => h) (Or.inl ⟨by rfl, ?_⟩) (by assumption) ?_
    rotate_left
    · (intro w hSw; (try dsimp only at hSw); go_simp <;> with_reducible rfl)
    try simp only [Act.put, List.setIfInBounds_toArray, List.set_cons_zero, List.set_cons_succ]
    -- 9: t64 := move t63 : 4
    refine wpAnyH_take (i := 9) (v := ?_) (get_of_drop rfl) (by kernel_rfl) (by kernel_rfl) (by kernel_rfl) (fun _ _ _ h => h) (Or.inl ⟨by rfl, ?_⟩) (by assumption) ?_
    rotate_left
    · (intro w hSw; (try dsimp only at hSw); go_simp <;> with_reducible rfl)
    try simp only [Act.put, List.setIfInBounds_toArray, List.set_cons_zero, List.set_cons_succ]
    -- 10: t65 := move t5 : 22   [if ⟨9, true⟩]
    refine wpAnyH_take (i := 10) (v := ?_) (get_of_drop rfl) (by kernel_rfl) (by kernel_rfl) (by kernel_rfl) (fun _ _ _ h => h) (Or.inl ⟨by rfl, ?_⟩) (by assumption) ?_
    rotate_left
    · (intro w hSw; (try dsimp only at hSw); go_simp <;> with_reducible rfl)
    try simp only [Act.put, List.setIfInBounds_toArray, List.set_cons_zero, List.set_cons_succ]
    -- 11: t66 := convert 22 9 t65 : 9   [if ⟨9, true⟩]
    refine wpAnyH_take (i := 11) (v := ?_) (get_of_drop rfl) (by kernel_rfl) (by kernel_rfl) (by kernel_rfl) (fun _ _ _ h => h) (Or.inl ⟨by rfl, ?_⟩) (by assumption) ?_
    rotate_left
    · (intro w hSw; (try dsimp only at hSw); go_simp <;> with_reducible rfl)
    try simp only [Act.put, List.setIfInBounds_toArray, List.set_cons_zero, List.set_cons_succ]
    -- 12: t67 := move t0 : 22   [if ⟨9, true⟩]
    refine wpAnyH_take (i := 12) (v := ?_) (get_of_drop rfl) (by kernel_rfl) (by kernel_rfl) (by kernel_rfl) (fun _ _ _ h => h) (Or.inl ⟨by rfl, ?_⟩) (by assumption) ?_
    rotate_left
    · (intro w hSw; (try dsimp only at hSw); go_simp <;> with_reducible rfl)
    try simp only [Act.put, List.setIfInBounds_toArray, List.set_cons_zero, List.set_cons_succ]
    -- 13: t68 := CALL fn14(t67) : 22   [if ⟨9, true⟩]
    refine wpAnyH_ready (rs := [13]) (by kernel_rfl) (by simp) ?_
    refine AllReadyH.cons (get_of_drop rfl) (fun K hK => ?_) AllReadyH.nil
    go_simp
    go_at_call 14
    refine (refmake_any A n c b _ _ (Q0.out _ D5.out) G6.out).mono ?_
    rintro e w6 ⟨A6, c6, rfl, h6⟩
    have D6 := D5.out.trans h6.2.1 (fun _ h _ => h)
    have E6 := hid D6
    have ht2 := at_str (own_At h6.1 HL.out)
    clear h6
    go_wp2_with fail
    refine hK.out _ _ ?_ (fun hHeld => ?_)
    · (first | assumption | exact D5.out | exact E6.out)
    clear hK K
    try simp only [Act.put, List.setIfInBounds_toArray, List.set_cons_zero, List.set_cons_succ]
    -- 14: t69 := convert 22 9 t68 : 9   [if ⟨9, true⟩]
    refine wpAnyH_ready (rs := [14]) (by kernel_rfl) (by simp) ?_
    refine AllReadyH.cons (get_of_drop rfl) (fun K hK => ?_) AllReadyH.nil
    go_simp
    refine hK.out _ _ ?_ (fun hHeld => ?_)
    · (first | assumption | exact D5.out | exact E6.out)
    clear hK K
    try simp only [Act.put, List.setIfInBounds_toArray, List.set_cons_zero, List.set_cons_succ]
    -- 15: t70 := binOp BinOp.eql 9 t66 t69 9 : 4   [if ⟨9, true⟩]
    refine wpAnyH_take (i := 15) (v := ?_) (get_of_drop rfl) (by kernel_rfl) (by kernel_rfl) (by kernel_rfl) (fun _ _ _ h => h) (Or.inl ⟨by rfl, ?_⟩) (by assumption) ?_
    rotate_left
    · (intro w hSw; (try dsimp only at hSw); go_simp <;> with_reducible rfl)
    try simp only [Act.put, List.setIfInBounds_toArray, List.set_cons_zero, List.set_cons_succ]
    -- 16: t71 := pick t64 t70 #false : 4
    refine wpAnyH_take (i := 16) (v := ?_) (get_of_drop rfl) (by kernel_rfl) (by kernel_rfl) (by kernel_rfl) (fun _ _ _ h => h) (Or.inl ⟨by rfl, ?_⟩) (by assumption) ?_
    rotate_left
    · (intro w hSw; (try dsimp only at hSw); go_simp <;> with_reducible rfl)
    try simp only [Act.put, List.setIfInBounds_toArray, List.set_cons_zero, List.set_cons_succ]
    -- 17: t72 := move t71 : 4
    refine wpAnyH_take (i := 17) (v := ?_) (get_of_drop rfl) (by kernel_rfl) (by kernel_rfl) (by kernel_rfl) (fun _ _ _ h => h) (Or.inl ⟨by rfl, ?_⟩) (by assumption) ?_
    rotate_left
    · (intro w hSw; (try dsimp only at hSw); go_simp <;> with_reducible rfl)
    try simp only [Act.put, List.setIfInBounds_toArray, List.set_cons_zero, List.set_cons_succ]
    -- 18: t73 := move t9 : 24   [if ⟨17, true⟩]
    refine wpAnyH_take (i := 18) (v := ?_) (get_of_drop rfl) (by kernel_rfl) (by kernel_rfl) (by kernel_rfl) (fun _ _ _ h => h) (Or.inl ⟨by rfl, ?_⟩) (by assumption) ?_
    rotate_left
    · (intro w hSw; (try dsimp only at hSw); go_simp <;> with_reducible rfl)
    try simp only [Act.put, List.setIfInBounds_toArray, List.set_cons_zero, List.set_cons_succ]
    -- 19: t74 := binOp BinOp.eql 24 t73 #i64:0 24 : 4   [if ⟨17, true⟩]
    refine wpAnyH_take (i := 19) (v := ?_) (get_of_drop rfl) (by kernel_rfl) (by kernel_rfl) (by kernel_rfl) (fun _ _ _ h => h) (Or.inl ⟨by rfl, ?_⟩) (by assumption) ?_
    rotate_left
    · (intro w hSw; (try dsimp only at hSw); go_simp <;> with_reducible rfl)
    try simp only [Act.put, List.setIfInBounds_toArray, List.set_cons_zero, List.set_cons_succ]
    -- 20: t75 := pick t72 t74 #false : 4
    refine wpAnyH_take (i := 20) (v := ?_) (get_of_drop rfl) (by kernel_rfl) (by kernel_rfl) (by kernel_rfl) (fun _ _ _ h => h) (Or.inl ⟨by rfl, ?_⟩) (by assumption) ?_
    rotate_left
    · (intro w hSw; (try dsimp only at hSw); go_simp <;> with_reducible rfl)
    try simp only [Act.put, List.setIfInBounds_toArray, List.set_cons_zero, List.set_cons_succ]
    -- 21: t76 := move t75 : 4
    refine wpAnyH_take (i := 21) (v := ?_) (get_of_drop rfl) (by kernel_rfl) (by kernel_rfl) (by kernel_rfl) (fun _ _ _ h => h) (Or.inl ⟨by rfl, ?_⟩) (by assumption) ?_
    rotate_left
    · (intro w hSw; (try dsimp only at hSw); go_simp <;> with_reducible rfl)
    try simp only [Act.put, List.setIfInBounds_toArray, List.set_cons_zero, List.set_cons_succ]
    -- 22: t77 := move t7 : 22   [if ⟨21, true⟩]
    refine wpAnyH_take (i := 22) (v := ?_) (get_of_drop rfl) (by kernel_rfl) (by kernel_rfl) (by kernel_rfl) (fun _ _ _ h => h) (Or.inl ⟨by rfl, ?_⟩) (by assumption) ?_
    rotate_left
    · (intro w hSw; (try dsimp only at hSw); go_simp <;> with_reducible rfl)
    try simp only [Act.put, List.setIfInBounds_toArray, List.set_cons_zero, List.set_cons_succ]
    -- 23: t78 := convert 22 9 t77 : 9   [if ⟨21, true⟩]
    refine wpAnyH_take (i := 23) (v := ?_) (get_of_drop rfl) (by kernel_rfl) (by kernel_rfl) (by kernel_rfl) (fun _ _ _ h => h) (Or.inl ⟨by rfl, ?_⟩) (by assumption) ?_
    rotate_left
    · (intro w hSw; (try dsimp only at hSw); go_simp <;> with_reducible rfl)
    try simp only [Act.put, List.setIfInBounds_toArray, List.set_cons_zero, List.set_cons_succ]
    -- 24: t79 := move t0 : 22   [if ⟨21, true⟩]
    refine wpAnyH_take (i := 24) (v := ?_) (get_of_drop rfl) (by kernel_rfl) (by kernel_rfl) (by kernel_rfl) (fun _ _ _ h => h) (Or.inl ⟨by rfl, ?_⟩) (by assumption) ?_
    rotate_left
    · (intro w hSw; (try dsimp only at hSw); go_simp <;> with_reducible rfl)
    try simp only [Act.put, List.setIfInBounds_toArray, List.set_cons_zero, List.set_cons_succ]
    -- 25: t80 := convert 22 9 t79 : 9   [if ⟨21, true⟩]
    refine wpAnyH_take (i := 25) (v := ?_) (get_of_drop rfl) (by kernel_rfl) (by kernel_rfl) (by kernel_rfl) (fun _ _ _ h => h) (Or.inl ⟨by rfl, ?_⟩) (by assumption) ?_
    rotate_left
    · (intro w hSw; (try dsimp only at hSw); go_simp <;> with_reducible rfl)
    try simp only [Act.put, List.setIfInBounds_toArray, List.set_cons_zero, List.set_cons_succ]
    -- 26: t81 := binOp BinOp.eql 9 t78 t80 9 : 4   [if ⟨21, true⟩]
    refine wpAnyH_take (i := 26) (v := ?_) (get_of_drop rfl) (by kernel_rfl) (by kernel_rfl) (by kernel_rfl) (fun _ _ _ h => h) (Or.inl ⟨by rfl, ?_⟩) (by assumption) ?_
    rotate_left
    · (intro w hSw; (try dsimp only at hSw); go_simp <;> with_reducible rfl)
    try simp only [Act.put, List.setIfInBounds_toArray, List.set_cons_zero, List.set_cons_succ]
    -- 27: t82 := pick t76 t81 #false : 4
    refine wpAnyH_take (i := 27) (v := ?_) (get_of_drop rfl) (by kernel_rfl) (by kernel_rfl) (by kernel_rfl) (fun _ _ _ h => h) (Or.inl ⟨by rfl, ?_⟩) (by assumption) ?_
    rotate_left
    · (intro w hSw; (try dsimp only at hSw); go_simp <;> with_reducible rfl)
    try simp only [Act.put, List.setIfInBounds_toArray, List.set_cons_zero, List.set_cons_succ]
    -- 28: t83 := move t82 : 4
    refine wpAnyH_take (i := 28) (v := ?_) (get_of_drop rfl) (by kernel_rfl) (by kernel_rfl) (by kernel_rfl) (fun _ _ _ h => h) (Or.inl ⟨by rfl, ?_⟩) (by assumption) ?_
    rotate_left
    · (intro w hSw; (try dsimp only at hSw); go_simp <;> with_reducible rfl)
    try simp only [Act.put, List.setIfInBounds_toArray, List.set_cons_zero, List.set_cons_succ]
    -- 29: t84 := move t8 : 3   [if ⟨28, true⟩]
    refine wpAnyH_take (i := 29) (v := ?_) (get_of_drop rfl) (by kernel_rfl) (by kernel_rfl) (by kernel_rfl) (fun _ _ _ h => h) (Or.inl ⟨by rfl, ?_⟩) (by assumption) ?_
    rotate_left
    · (intro w hSw; (try dsimp only at hSw); go_simp <;> with_reducible rfl)
    try simp only [Act.put, List.setIfInBounds_toArray, List.set_cons_zero, List.set_cons_succ]
    -- 30: t85 := move t5 : 22   [if ⟨28, true⟩]
    refine wpAnyH_take (i := 30) (v := ?_) (get_of_drop rfl) (by kernel_rfl) (by kernel_rfl) (by kernel_rfl) (fun _ _ _ h => h) (Or.inl ⟨by rfl, ?_⟩) (by assumption) ?_
    rotate_left
    · (intro w hSw; (try dsimp only at hSw); go_simp <;> with_reducible rfl)
    try simp only [Act.put, List.setIfInBounds_toArray, List.set_cons_zero, List.set_cons_succ]
    -- 31: t86 := len(t85) types [22] : 3   [if ⟨28, true⟩]
    refine wpAnyH_take (i := 31) (v := ?_) (get_of_drop rfl) (by kernel_rfl) (by kernel_rfl) (by kernel_rfl) (fun _ _ _ h => h) (Or.inl ⟨by rfl, ?_⟩) (by assumption) ?_
    rotate_left
    · (intro w hSw; (try dsimp only at hSw); go_simp <;> with_reducible rfl)
    try simp only [Act.put, List.setIfInBounds_toArray, List.set_cons_zero, List.set_cons_succ]
    -- 32: t87 := binOp BinOp.eql 3 t84 t86 3 : 4   [if ⟨28, true⟩]
    refine wpAnyH_take (i := 32) (v := ?_) (get_of_drop rfl) (by kernel_rfl) (by kernel_rfl) (by kernel_rfl) (fun _ _ _ h => h) (Or.inl ⟨by rfl, ?_⟩) (by assumption) ?_
    rotate_left
    · (intro w hSw; (try dsimp only at hSw); go_simp <;> with_reducible rfl)
    try simp only [Act.put, List.setIfInBounds_toArray, List.set_cons_zero, List.set_cons_succ]
    -- 33: t88 := pick t83 t87 #false : 4
    refine wpAnyH_take (i := 33) (v := ?_) (get_of_drop rfl) (by kernel_rfl) (by kernel_rfl) (by kernel_rfl) (fun _ _ _ h => h) (Or.inl ⟨by rfl, ?_⟩) (by assumption) ?_
    rotate_left
    · (intro w hSw; (try dsimp only at hSw); go_simp <;> with_reducible rfl)
    try simp only [Act.put, List.setIfInBounds_toArray, List.set_cons_zero, List.set_cons_succ]
    -- 34: t4 := assign t88 : 4
    refine wpAnyH_take (i := 34) (v := ?_) (get_of_drop rfl) (by kernel_rfl) (by kernel_rfl) (by kernel_rfl) (fun _ _ _ h => h) (Or.inl ⟨by rfl, ?_⟩) (by assumption) ?_
    rotate_left
    · (intro w hSw; (try dsimp only at hSw); go_simp <;> with_reducible rfl)
    try simp only [Act.put, List.setIfInBounds_toArray, List.set_cons_zero, List.set_cons_succ]
    refine wpAnyH_done (by kernel_rfl) ?_ _
    go_wp2
    go_ret
    exact ⟨rfl, BEL.out.trans (E6.out.below BEL.out.size (fun _ h => h.elim))⟩

theorem FrameMakes_walk (w : World) (A : Option Addr) (n c : Nat) (b : List UInt8) (h : Ty.At Ty.u8 w (fun k => k < w.heap.size) A n c b) (B : Option Addr) (m d : Nat) (r : List UInt8) (hr : Ty.At Ty.u8 w (fun k => k < w.heap.size) B m d r) :
    Calls Try.prog 3 #[.slice A n c, .slice B m d] w fun e w' => e = .returned (.bool true) ∧ Below w.heap.size w w' := by
  by_cases h1 : (n ≤ 3000 ∨ n = 65536) ∧ m ≤ 1000
  · exact makes_in w A B n c m d b r h hr h1.1 h1.2
  · by_cases h2 : 65536 < n ∧ n ≤ 131072 ∧ m ≤ 1000
    · exact makes_big w A B n c m d h2.1 h2.2.1 h2.2.2
    · refine makes_out w A B n c m d _ _ _ _ rfl rfl rfl rfl ?_
      simp only [Bool.or_eq_true, Bool.and_eq_true, decide_eq_true_eq]
      omega

end Go.Proofs.Ytodbaadcpgkbdaa.Fr
