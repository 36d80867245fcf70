/- The walk of the law ClassNots. -/
import Derived.Test.YtoojifcpjbakgaaWClassFolds
import Derived.Test.YtoojifcpjbakgaaClassK
namespace Go.Proofs.Ytoojifcpjbakgaa.Cl
set_option linter.unusedVariables false
set_option linter.unusedSimpArgs false
open Go.RowKit Go.Proofs.Ytoojifcpjbakgaa.C Go.Shelf
attribute [local go_sem] max2_int min2_int max_two min_two

set_option maxHeartbeats 4000000 in
set_option maxRecDepth 100000 in
theorem nots_no (w : World) (A : Option Addr) (n c : Nat) (L : List Rg) (ha : Ty.At rgK w (fun k => k < w.heap.size) A n c L) (ask : Int) (hask : (Lit.int .i64 ask).wf = true) (hn : n ≤ 40) (hr : nrm L = false) :
    Calls Try.prog 5 #[.slice A n c, .int .i64 ask] w fun e w' => e = .returned (.bool true) ∧ Below w.heap.size w w' := by
  have HA := hid ha
  have HR := hid hr
  have HW := hid hask
  have hn2 : (n : Int) ≤ 40 := by omega
  clear ha hr hask
  go_enter Try.func5, Try.ntmps5
  go_wp2_with fail
  refine (anchor_any w).mono ?_
  rintro e w2 ⟨rfl, h2⟩
  have H2 := hid h2
  clear h2
  go_wp2_with fail
  refine (ranges_any (HA.out.chg H2.out (fun _ _ h => h)) (by omega)).mono ?_
  rintro e w3 ⟨B, d, rfl, h4, h5⟩
  have H4 := hid h4
  have H5 := hid (H2.out.trans h5 (fun _ h _ => h))
  clear h4 h5
  go_wp2_with fail
  refine (Not_no (HA.out.chg H5.out (fun _ _ h => h)) (by omega) HR.out).mono ?_
  rintro e w4 ⟨rfl, h3⟩
  have H6 := hid (H5.out.trans h3 (fun _ h _ => h))
  have H7 := hid (H4.out.chg h3 (fun _ _ h => h))
  clear h3
  go_wp2_with fail
  refine (isnormal_any (HA.out.chg H6.out (fun _ _ h => h)) (by omega)).mono ?_
  rintro e w5 ⟨rfl, h5⟩
  have G1 := hid h5
  clear h5
  rw [HR.out]
  go_wp2_with fail
  refine (refnormal_any (H7.out.chg G1.out (fun _ _ h => h)) (by omega)).mono ?_
  rintro e w6 ⟨rfl, h6⟩
  have G2 := hid (G1.out.trans h6 (fun _ h _ => h))
  clear h6
  rw [HR.out]
  go_wp2_with fail
  refine (has_any ask (HA.out.chg (H6.out.trans G2.out (fun _ h _ => h)) (fun _ _ h => h)) (by omega)).mono ?_
  rintro e w7 ⟨rfl, h7⟩
  have G3 := hid (G2.out.trans h7 (fun _ h _ => h))
  clear h7
  go_wp2_with fail
  refine (refhas_any ask (H7.out.chg G3.out (fun _ _ h => h)) (by omega)).mono ?_
  rintro e w8 ⟨rfl, rfl⟩
  generalize has L ask = bask
  go_wp2_with fail
  refine (refnormal_any (H7.out.chg G3.out (fun _ _ h => h)) (by omega)).mono ?_
  rintro e w9 ⟨rfl, h9⟩
  have H9 := hid (G3.out.trans h9 (fun _ h _ => h))
  have H12 := hid (H6.out.trans H9.out (fun _ h _ => h))
  clear h9
  rw [HR.out]
  go_wp2_with fail
  refine (count_no (HA.out.chg H12.out (fun _ _ h => h)) (by omega) HR.out).mono ?_
  rintro e w10 ⟨rfl, h13⟩
  have H13 := hid (H12.out.trans h13 (fun _ h _ => h))
  clear h13
  go_wp2_with fail
  go_ret
  exact ⟨rfl, H13.out.below (Nat.le_refl _) (fun _ h => h.elim)⟩

set_option maxHeartbeats 4000000 in
set_option maxRecDepth 100000 in
theorem nots_yes (w : World) (A : Option Addr) (n c : Nat) (L : List Rg) (ha : Ty.At rgK w (fun k => k < w.heap.size) A n c L) (ask : Int) (hask : (Lit.int .i64 ask).wf = true) (hn : n ≤ 40) (hr : nrm L = true) :
    Calls Try.prog 5 #[.slice A n c, .int .i64 ask] w fun e w' => e = .returned (.bool true) ∧ Below w.heap.size w w' := by
  have HA := hid ha
  have HR := hid hr
  have HW := hid hask
  have HL := hid ha.1
  have hn2 : (n : Int) ≤ 40 := by omega
  clear ha hr hask
  go_enter Try.func5, Try.ntmps5
  go_wp2_with fail
  refine (anchor_any w).mono ?_
  rintro e w2 ⟨rfl, h2⟩
  have H2 := hid h2
  clear h2
  go_wp2_with fail
  refine (ranges_any (HA.out.chg H2.out (fun _ _ h => h)) (by omega)).mono ?_
  rintro e w3 ⟨B, d, rfl, h4, h5⟩
  have H4 := hid h4
  have H5 := hid (H2.out.trans h5 (fun _ h _ => h))
  clear h4 h5
  go_wp2_with fail
  refine (Not_ok (HA.out.chg H5.out (fun _ _ h => h)) (by omega) HR.out).mono ?_
  rintro e w4 ⟨v, q, rfl, hq, h3, h3c⟩
  obtain ⟨A2, c2, m, rfl, hm, h6⟩ := own_form_len h3
  have EQ := hid hq
  have P1 := hid (show nrm q = true by rw [hq]; exact not_nrm HR.out)
  have P2 := hid (show ∀ u, has q u = decide (0 ≤ u ∧ u ≤ 1114367 ∧ has L u = false) from fun u => by rw [hq]; exact not_has HR.out u)
  have hmb : m ≤ 41 := by have q1 := notFrom_len L 0; rw [hm, hq]; unfold not_; rw [← HL.out] at q1; omega
  have HQ := hid h6
  have H6 := hid (H5.out.trans h3c (fun _ h _ => h))
  have H7 := hid (H4.out.chg h3c (fun _ _ h => h))
  clear h3 h3c h6 hm hq
  go_wp2_with fail
  refine (isnormal_any (HA.out.chg H6.out (fun _ _ h => h)) (by omega)).mono ?_
  rintro e w5 ⟨rfl, h5⟩
  have G1 := hid h5
  clear h5
  rw [HR.out]
  go_wp2_with fail
  refine (refnormal_any (H7.out.chg G1.out (fun _ _ h => h)) (by omega)).mono ?_
  rintro e w6 ⟨rfl, h6⟩
  have G2 := hid (G1.out.trans h6 (fun _ h _ => h))
  clear h6
  rw [HR.out]
  go_wp2_with fail
  refine (has_any ask (HA.out.chg (H6.out.trans G2.out (fun _ h _ => h)) (fun _ _ h => h)) (by omega)).mono ?_
  rintro e w7 ⟨rfl, h7⟩
  have G3 := hid (G2.out.trans h7 (fun _ h _ => h))
  clear h7
  go_wp2_with fail
  refine (refhas_any ask (H7.out.chg G3.out (fun _ _ h => h)) (by omega)).mono ?_
  rintro e w8 ⟨rfl, rfl⟩
  generalize has L ask = bask
  go_wp2_with fail
  refine (refnormal_any (H7.out.chg G3.out (fun _ _ h => h)) (by omega)).mono ?_
  rintro e w9 ⟨rfl, h9⟩
  have H9 := hid (G3.out.trans h9 (fun _ h _ => h))
  have H12 := hid (H6.out.trans H9.out (fun _ h _ => h))
  clear h9
  rw [HR.out]
  have H8 := hid (H9.out)
  go_wp2_with fail
  refine (edges_any (T := fun _ => False) (ys := []) (H7.out.chg H8.out (fun _ _ h => h)) (at_nil _) (by omega) (by omega) (nrm_right HR.out) (by simp)).mono ?_
  rintro e w10 ⟨v, rfl, hO⟩
  obtain ⟨A5, m5, c5, rfl, hm5⟩ := hO.form
  have HO := hid hO
  clear hO
  go_wp2_with (first | (at_builtin; refine int_app w9 w10 rfl (.tmp 54) (.tmp 56) rfl A5 m5 c5 _ ask rfl HO.out HW.out rfl (by omega) ?_; intro A6 c6 w11 h6 h7; have HO2 := hid h6; clear h6 h7))
  have H9 := hid (H8.out.trans HO2.out.same (fun _ h _ => h))
  have HQ9 := hid (HQ.out.chg H9.out (fun _ _ h => h))
  have HX9 := hid (H7.out.chg H9.out (fun _ _ h => h))
  have HW9 := hid (H6.out.trans H9.out (fun _ h _ => h))
  go_loopw [59] (fun i wr => ∃ k : Nat, k ≤ m5 + 1 ∧ i = .int .i64 k ∧ Chg (fun _ => False) w11 wr) (fun i _ => m5 + 1 - (intOf i).toNat)
  case atStart => exact ⟨0, Nat.zero_le _, rfl, Chg.refl _ _⟩
  case round =>
    obtain ⟨j, hj, rfl, hC⟩ := hrel
    have HC := hid hC
    by_cases hjl : j < m5 + 1
    · have hjl2 : (j : Int) < (m5 : Int) + 1 := by omega
      obtain ⟨g, x, hA5, y0, hwx⟩ := (HO2.out.chg hC).get hjl
      subst hA5
      have HWX := hid hwx
      clear hC hwx
      go_wp2_with fail
      refine (has_any x (HQ9.out.chg HC.out (fun _ _ h => h)) (by omega)).mono ?_
      rintro e w12 ⟨rfl, h11⟩
      have H13 := hid (HC.out.trans h11 (fun _ h _ => h))
      clear h11 y0
      rw [P2.out]
      by_cases hx0 : 0 ≤ x
      · by_cases hx1 : x ≤ 1114367
        · have e1 : decide (0 ≤ x ∧ x ≤ 1114367 ∧ has L x = false) = !(has L x) := by cases has L x <;> simp [hx0, hx1]
          rw [e1]
          clear e1
          go_wp2_with fail
          refine (refhas_any x (HX9.out.chg H13.out (fun _ _ h => h)) (by omega)).mono ?_
          rintro e w13 ⟨rfl, rfl⟩
          generalize has L x = bx
          go_wp2_with fail
          go_roundw
          case measure => simp [intOf]; omega
          case rel => first | exact ⟨j + 1, by omega, by go_num, H13.out⟩ | ((repeat apply Exists.intro); exact ⟨⟨j + 1, by omega, by go_num, H13.out⟩, rfl⟩)
        · rw [decide_eq_false (show ¬ (0 ≤ x ∧ x ≤ 1114367 ∧ has L x = false) from fun h => hx1 h.2.1)]
          go_wp2_with fail
          go_roundw
          case measure => simp [intOf]; omega
          case rel => first | exact ⟨j + 1, by omega, by go_num, H13.out⟩ | ((repeat apply Exists.intro); exact ⟨⟨j + 1, by omega, by go_num, H13.out⟩, rfl⟩)
      · rw [decide_eq_false (show ¬ (0 ≤ x ∧ x ≤ 1114367 ∧ has L x = false) from fun h => hx0 h.1)]
        go_wp2_with fail
        go_roundw
        case measure => simp [intOf]; omega
        case rel => first | exact ⟨j + 1, by omega, by go_num, H13.out⟩ | ((repeat apply Exists.intro); exact ⟨⟨j + 1, by omega, by go_num, H13.out⟩, rfl⟩)
    · clear hC
      have hjl2 : ¬ (j : Int) < (m5 : Int) + 1 := by omega
      go_wp2_with fail
      refine (Not_ok (HQ9.out.chg HC.out (fun _ _ h => h)) (by omega) P1.out).mono ?_
      rintro e w12 ⟨v, q2, rfl, hq2, h3, h3c⟩
      obtain ⟨A7, c7, m7, rfl, hm7, h7⟩ := own_form_len h3
      have hm7b : m7 ≤ 1000 := by have q1 := notFrom_len q 0; have q2' := HQ.out.1; rw [hm7, hq2]; unfold not_; omega
      have HEQ := hid (show q2 = L from ext (by rw [hq2]; exact not_nrm P1.out) HR.out (fun u => by
        rw [hq2, not_has P1.out, P2.out, Bool.eq_iff_iff]
        have := nrm_lo (n := u) HR.out
        cases hl : has L u
        · simp
          omega
        · have := this hl
          simp
          omega))
      have HQ2 := hid h7
      have HC2 := hid (HC.out.trans h3c (fun _ h _ => h))
      clear h3 h3c h7 hq2 hm7
      go_wp2_with fail
      refine (isnormal_any (HQ9.out.chg HC2.out (fun _ _ h => h)) (by omega)).mono ?_
      rintro e w13 ⟨rfl, h13⟩
      have HC3 := hid (HC2.out.trans h13 (fun _ h _ => h))
      have HQ3 := hid (HQ2.out.chg h13 (fun _ _ h => h))
      clear h13
      rw [P1.out]
      go_wp2_with fail
      have HA3 := hid (HA.out.chg (HW9.out.trans HC3.out (fun _ h _ => h)) (fun _ _ h => h))
      refine (same_any HQ3.out HA3.out (by omega) (by omega)).mono ?_
      rintro e w14 ⟨rfl, h14⟩
      rw [decide_eq_true HEQ.out]
      have HC4 := hid (HC3.out.trans h14 (fun _ h _ => h))
      have HA4 := hid (HA3.out.chg h14 (fun _ _ h => h))
      clear h14
      go_wp2_with fail
      refine (count_any HA4.out (by omega) HR.out).mono ?_
      rintro e w15 ⟨rfl, h15⟩
      have HC5 := hid (HC4.out.trans h15 (fun _ h _ => h))
      clear h15
      go_wp2_with fail
      refine (count_any (HQ9.out.chg HC5.out (fun _ _ h => h)) (by omega) P1.out).mono ?_
      rintro e w16 ⟨rfl, h16⟩
      have HC6 := hid (HC5.out.trans h16 (fun _ h _ => h))
      clear h16
      have hsum : cnt L + cnt q = 1114368 := by rw [EQ.out]; exact cnt_not HR.out
      have hb1 := (cnt_le L (nrm_right HR.out)).1
      have hb2 := (cnt_le q (nrm_right P1.out)).1
      generalize cnt L = s1 at hsum hb1 ⊢
      generalize cnt q = s2 at hsum hb2 ⊢
      go_wp2_with fail
      go_ret
      exact ⟨rfl, (HW9.out.trans HC6.out (fun _ h _ => h)).below (Nat.le_refl _) (fun _ h => h.elim)⟩

theorem ClassNots_walk (w : World) (A : Option Addr) (n c : Nat) (L : List Rg) (ha : Ty.At rgK w (fun k => k < w.heap.size) A n c L) (ask : Int) (hask : (Lit.int .i64 ask).wf = true) :
    Calls Try.prog 5 #[.slice A n c, .int .i64 ask] w fun e w' => e = .returned (.bool true) ∧ Below w.heap.size w w' := by
  by_cases h : n ≤ 40
  · cases hr : nrm L
    · exact nots_no w A n c L ha ask hask h hr
    · exact nots_yes w A n c L ha ask hask h hr
  · exact nots_out w A n c ask (by omega)
end Go.Proofs.Ytoojifcpjbakgaa.Cl
