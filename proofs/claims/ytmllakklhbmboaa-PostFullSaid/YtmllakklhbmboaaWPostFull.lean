/- The walk of the law PostFull. -/
import Derived.Test.YtmllakklhbmboaaPostL
import Derived.Test.YtmllakklhbmboaaTapeA
namespace Go.Proofs.Ytmllakklhbmboaa.Po
set_option linter.unusedVariables false
set_option linter.unusedSimpArgs false
open Go.RowKit Go.Proofs.Ytmllakklhbmboaa.C
attribute [local go_sem] max2_int min2_int max_two min_two

abbrev z0 : Pk := ⟨0, 0, []⟩
theorem z0_at (w : World) (R : Nat → Prop) : PkAt w R z0 none 0 0 := ⟨rfl, rfl, rfl, Nat.le_refl _, by simp [maxLen], fun _ => rfl, [], .nil _ _ _, Ty.Row.nil _ _ _⟩
def reps (n : Nat) : List Pk := List.replicate n z0
theorem reps_len (n : Nat) : (reps n).length = n := by simp [reps]
theorem reps_succ (n : Nat) : reps n ++ [z0] = reps (n + 1) := by simp [reps, List.replicate_succ']
theorem reps_send {n : Nat} (h : n < 4096) : sendP (reps n) z0 = (reps (n + 1), 0) := by
  unfold sendP
  rw [if_neg (by simp), if_neg (by rw [reps_len]; omega), reps_succ]
theorem reps_full (x : Pk) (h : x.data.length ≤ 65546) : sendP (reps 4096) x = (reps 4096, 33) := by
  unfold sendP
  rw [if_neg (by omega), if_pos (reps_len 4096)]
theorem reps_big (n : Nat) (x : Pk) (h : 65546 < x.data.length) : sendP (reps n) x = (reps n, 12) := by
  unfold sendP
  rw [if_pos h]
theorem reps_pick {n i : Nat} (h : i < n) : pickP (reps n) (i : Int) = some z0 := by
  rw [pickP_yes (by rw [reps_len]; exact h)]
  simp [reps]
theorem reps_take (n : Nat) : takeP (reps (n + 1)) 0 = (reps n, some z0) := by
  unfold takeP
  rw [show (0 : Int) = ((0 : Nat) : Int) from rfl, reps_pick (Nat.succ_pos n)]
  simp [reps, List.replicate_succ]
theorem reps_copy {n : Nat} (h : n + 1 < 4096) : copyP (reps (n + 1)) 0 = (reps (n + 2), 0) := by
  unfold copyP
  rw [show (0 : Int) = ((0 : Nat) : Int) from rfl, reps_pick (Nat.succ_pos n)]
  exact reps_send h
theorem reps_copy_full : copyP (reps 4096) 0 = (reps 4096, 33) := by
  unfold copyP
  rw [show (0 : Int) = ((0 : Nat) : Int) from rfl, reps_pick (by omega)]
  exact reps_full _ (by simp)
theorem reps_copy_no : copyP (reps 4096) 4096 = (reps 4096, 60) := by
  unfold copyP
  rw [pickP_no (by rw [reps_len]; omega)]

theorem full_out (w : World) (more : Int) (long : Bool) (h : more < 0 ∨ 50 < more) :
    Calls Try.prog 5 #[.int .i64 more, .bool long] w fun e w' => e = .returned (.bool true) ∧ Below w.heap.size w w' := by
  rcases h with h | h
  · go_enter Try.func5, Try.ntmps5
    go_wp2_with fail
    refine (anchor_any w).mono ?_
    rintro e w1 ⟨rfl, hb1⟩
    go_wp2_with fail
    go_ret
    exact ⟨rfl, hb1⟩
  · have h' : ¬ more < 0 := by omega
    go_enter Try.func5, Try.ntmps5
    go_wp2_with fail
    refine (anchor_any w).mono ?_
    rintro e w1 ⟨rfl, hb1⟩
    go_wp2_with fail
    go_ret
    exact ⟨rfl, hb1⟩

set_option maxHeartbeats 8000000 in
set_option maxRecDepth 100000 in
theorem full_in (w : World) (m : Nat) (long : Bool) (h : m ≤ 50) :
    Calls Try.prog 5 #[.int .i64 m, .bool long] w fun e w' => e = .returned (.bool true) ∧ Below w.heap.size w w' := by
  have g1 : ¬ (m : Int) < 0 := by omega
  have g2 : ¬ (50 : Int) < (m : Int) := by omega
  go_enter Try.func5, Try.ntmps5
  go_wp2_with fail
  refine (anchor_any w).mono ?_
  rintro e w1 ⟨rfl, hb1⟩
  have HB1 := hid hb1
  clear hb1
  go_wp2_with fail
  refine (lp_new w w1 (fun _ => False) HB1.out (fun _ h => h.elim)).mono ?_
  rintro e w2 ⟨rfl, h2, _⟩
  obtain ⟨tp, htp⟩ : ∃ tp, tp = w1.heap.size := ⟨_, rfl⟩
  rw [← htp] at h2 ⊢
  have H2 := hid h2
  clear h2 htp
  go_wp2_with fail
  go_loopw [19] (fun i wr => ∃ k : Nat, k ≤ 4096 ∧ i = .int .i64 k ∧ LvP w wr (fun _ => False) tp (reps k)) (fun i _ => 4096 - (intOf i).toNat)
  case atStart => exact ⟨0, Nat.zero_le _, rfl, H2.out⟩
  case round =>
    obtain ⟨k, hk, rfl, hL⟩ := hrel
    have HL := hid hL
    clear hL
    by_cases hlt : k < 4096
    · go_wp2_with fail
      refine (lp_send z0 HL.out (z0_at _ (fun _ => False))).mono ?_
      rintro e w3 ⟨rfl, h3, _⟩
      rw [reps_send hlt] at h3 ⊢
      have H3 := hid h3
      clear h3
      go_wp2_with fail
      go_roundw
      case measure => simp [intOf]; omega
      case rel => first | exact ⟨k + 1, by omega, by go_num, H3.out⟩ | ((repeat apply Exists.intro); exact ⟨⟨k + 1, by omega, by go_num, H3.out⟩, rfl⟩)
    · obtain rfl : k = 4096 := by omega
      obtain ⟨C, hC⟩ : ∃ C, C = madeCells #[Value.int .u8 0] 65547 := ⟨_, rfl⟩
      have hmk : ∀ W, (Instr.makeSlice 22 (.int .i64 65547) (.int .i64 65547)).run Try.prog W = .ok (.slice (some ⟨W.heap.size, 0, none⟩) 65547 65547) (W.alloc (.cells C 5)) := fun W => by
        have q := make_run (P := Try.prog) 22 5 (.int .u8 0) 1 Try.underlying22 T.info5 rfl (by decide) 65547 (by omega) W
        rw [hC]
        exact q
      have HC := hid (show ∀ W : World, Sees (W.alloc (.cells C 5)) (fun k => k = W.heap.size) (some ⟨W.heap.size, 0, none⟩) (u8s (List.replicate 65547 0)) from fun W => by rw [hC]; exact T.made_sees W 65547 (by omega))
      obtain ⟨big, hbig⟩ : ∃ big : List UInt8, big = List.replicate 65547 0 := ⟨_, rfl⟩
      have HBL := hid (show big.length = 65547 by rw [hbig, List.length_replicate])
      rw [← hbig] at HC
      clear hC hbig
      cases long
      case' false =>
        go_wp2_with fail
        refine (lp_send z0 (HL.out.new ((Chg.refl _ wr).alloc _)) (z0_at _ (fun _ => False))).mono ?_
        rintro e w3 ⟨rfl, h3, _⟩
        rw [reps_full _ (by simp)] at h3 ⊢
      case' true =>
        go_wp2_with fail
        have hx : PkAt ((wr.alloc (.cells #[.int .i64 0, .int .i64 0, .slice (some ⟨wr.heap.size + 1, 0, none⟩) 65547 65547] 38)).alloc (.cells C 5)) (fun _ => True) ⟨0, 0, big⟩ (some ⟨wr.heap.size + 1, 0, none⟩) 65547 65547 :=
          ⟨rfl, rfl, Ty.At.of_bytes HBL.out.symm (Nat.le_refl _) (by simp [maxLen]) (fun h => by cases h) (by
            have q := (HC.out (wr.alloc (.cells #[.int .i64 0, .int .i64 0, .slice (some ⟨wr.heap.size + 1, 0, none⟩) 65547 65547] 38))).mono (S' := fun _ => True) (fun _ _ => trivial)
            have e : (wr.alloc (.cells #[.int .i64 0, .int .i64 0, .slice (some ⟨wr.heap.size + 1, 0, none⟩) 65547 65547] 38)).heap.size = wr.heap.size + 1 := by simp
            rw [e] at q
            exact q)⟩
        refine (lp_send ⟨0, 0, big⟩ (HL.out.new (((Chg.refl _ wr).alloc _).alloc _)) hx).mono ?_
        rintro e w3 ⟨rfl, h3, _⟩
        rw [reps_big _ _ (by rw [HBL.out]; omega)] at h3 ⊢
        clear hx
      all_goals
        have H3 := hid h3
        clear h3
        go_wp2_with fail
        refine (lp_copy 0 H3.out).mono ?_
        rintro e w4 ⟨rfl, h4, _⟩
        rw [reps_copy_full] at h4 ⊢
        have H4 := hid h4
        clear h4
        go_wp2_with fail
        refine (lp_copy 4096 H4.out).mono ?_
        rintro e w5 ⟨rfl, h5, _⟩
        rw [reps_copy_no] at h5 ⊢
        have H5 := hid (show LvP w w5 (fun _ => False) tp (reps (4096 - 0)) from h5)
        clear h5
        go_wp2_with fail
        go_loopw [57] (fun i wr => ∃ k : Nat, k ≤ m ∧ i = .int .i64 k ∧ LvP w wr (fun _ => False) tp (reps (4096 - k))) (fun i _ => m - (intOf i).toNat)
        case atStart => exact ⟨0, Nat.zero_le _, rfl, H5.out⟩
        case round =>
          obtain ⟨k, hk, rfl, hL⟩ := hrel
          obtain ⟨q, hq⟩ : ∃ q, 4096 - k = q + 1 := ⟨4095 - k, by omega⟩
          by_cases hlt : k < m
          · rw [hq] at hL
            have HL2 := hid hL
            have HQ := hid (show q = 4096 - (k + 1) by omega)
            clear hL hq
            go_wp2_with fail
            refine (lp_take 0 HL2.out).mono ?_
            rintro e w6 ⟨A, n, c, rfl, hx, h6, _⟩
            rw [reps_take] at h6 ⊢
            rw [HQ.out] at h6
            have H6 := hid (h6.new ((Chg.refl _ w6).alloc (.cells #[.int .i64 0, .int .i64 0, .slice A n c] 38)))
            clear h6 hx
            go_wp2_with fail
            go_roundw
            case measure => simp [intOf]; omega
            case rel => first | exact ⟨k + 1, by omega, by go_num, H6.out⟩ | ((repeat apply Exists.intro); exact ⟨⟨k + 1, by omega, by go_num, H6.out⟩, rfl⟩)
          · obtain rfl : k = m := by omega
            have HL2 := hid (show LvP w _ (fun _ => False) tp (reps (4096 - k + 0)) from hL)
            clear hL hq
            go_wp2_with fail
            go_loopw [68] (fun i wr => ∃ j : Nat, j ≤ k ∧ i = .int .i64 j ∧ LvP w wr (fun _ => False) tp (reps (4096 - k + j))) (fun i _ => k - (intOf i).toNat)
            case atStart => exact ⟨0, Nat.zero_le _, rfl, HL2.out⟩
            case round =>
              obtain ⟨j, hj, rfl, hL⟩ := hrel
              by_cases hlt : j < k
              · obtain ⟨q, hq⟩ : ∃ q, 4096 - k + j = q + 1 := ⟨4095 - k + j, by omega⟩
                rw [hq] at hL
                have HL3 := hid hL
                have HQ := hid (show q + 2 = 4096 - k + (j + 1) by omega)
                clear hL hq
                go_wp2_with fail
                refine (lp_copy 0 HL3.out).mono ?_
                rintro e w6 ⟨rfl, h6, _⟩
                rw [reps_copy (by have := HQ.out; omega)] at h6 ⊢
                rw [HQ.out] at h6
                have H6 := hid h6
                clear h6
                go_wp2_with fail
                go_roundw
                case measure => simp [intOf]; omega
                case rel => first | exact ⟨j + 1, by omega, by go_num, H6.out⟩ | ((repeat apply Exists.intro); exact ⟨⟨j + 1, by omega, by go_num, H6.out⟩, rfl⟩)
              · obtain rfl : j = k := by omega
                rw [show 4096 - j + j = 4096 by omega] at hL
                have HL3 := hid hL
                clear hL
                go_wp2_with fail
                refine (lp_len HL3.out).mono ?_
                rintro e w6 ⟨rfl, rfl⟩
                rw [reps_len]
                go_wp2_with fail
                refine (lp_send z0 HL3.out (z0_at _ (fun _ => False))).mono ?_
                rintro e w6 ⟨rfl, h6, _⟩
                rw [reps_full _ (by simp)] at h6 ⊢
                have H6 := hid h6
                clear h6
                go_wp2_with fail
                go_ret
                exact ⟨rfl, H6.out.below⟩

theorem PostFull_walk (w : World) (more : Int) (wf : (Lit.int .i64 more).wf = true) (long : Bool) :
    Calls Try.prog 5 #[.int .i64 more, .bool long] w fun e w' => e = .returned (.bool true) ∧ Below w.heap.size w w' := by
  by_cases h : more < 0 ∨ 50 < more
  · exact full_out w more long h
  · obtain ⟨m, rfl⟩ := Int.eq_ofNat_of_zero_le (show 0 ≤ more by omega)
    exact full_in w m long (by omega)
end Go.Proofs.Ytmllakklhbmboaa.Po
