/- The walk of the law ClassMakes. -/
import Derived.Test.YtoojifcpjbakgaaClassA
namespace Go.Proofs.Ytoojifcpjbakgaa.Cl
set_option linter.unusedVariables false
set_option linter.unusedSimpArgs false
open Go.RowKit Go.Proofs.Ytoojifcpjbakgaa.C Go.Shelf
attribute [local go_sem] max2_int min2_int max_two min_two

set_option maxHeartbeats 4000000 in
set_option maxRecDepth 100000 in
theorem makes_out (w : World) (A : Option Addr) (n c : Nat) (ask : Int) (hn : 40 < n) :
    Calls Try.prog 4 #[.slice A n c, .int .i64 ask] w fun e w' => e = .returned (.bool true) ∧ Below w.heap.size w w' := by
  have hn2 : (40 : Int) < (n : Int) := by omega
  clear hn
  go_enter Try.func4, Try.ntmps4
  go_wp2_with fail
  refine (anchor_any w).mono ?_
  rintro e w2 ⟨rfl, h2⟩
  have H2 := hid h2
  clear h2
  go_wp2_with fail
  go_ret
  exact ⟨rfl, H2.out.below (Nat.le_refl _) (fun _ h => h.elim)⟩

set_option maxHeartbeats 4000000 in
set_option maxRecDepth 100000 in
theorem makes_no (w : World) (A : Option Addr) (n c : Nat) (L : List Rg) (ha : Ty.At rgK w (fun k => k < w.heap.size) A n c L) (ask : Int) (hn : n ≤ 40) (hr : ¬ ∀ x ∈ L, x.right = true) :
    Calls Try.prog 4 #[.slice A n c, .int .i64 ask] w fun e w' => e = .returned (.bool true) ∧ Below w.heap.size w w' := by
  have HA := hid ha
  have HR := hid hr
  have HL := hid ha.1
  have hn2 : (n : Int) ≤ 40 := by omega
  clear ha hr
  go_enter Try.func4, Try.ntmps4
  go_wp2_with fail
  refine (anchor_any w).mono ?_
  rintro e w2 ⟨rfl, h2⟩
  have H2 := hid h2
  clear h2
  go_wp2_with fail
  refine (make_no (HA.out.chg H2.out (fun _ _ h => h)) (by omega) HR.out).mono ?_
  rintro e w3 ⟨rfl, h3⟩
  have H3 := hid (H2.out.trans h3 (fun _ h _ => h))
  clear h3
  go_wp2_with fail
  refine (ranges_any (HA.out.chg H3.out (fun _ _ h => h)) (by omega)).mono ?_
  rintro e w4 ⟨B, d, rfl, h4, h5⟩
  have H4 := hid h4
  have H5 := hid (H3.out.trans h5 (fun _ h _ => h))
  clear h4 h5
  go_wp2_with fail
  go_loopw [26] (fun i wr => ∃ k : Nat, k ≤ n ∧ i = .int .i64 k ∧ (∀ x ∈ L.take k, x.right = true) ∧ Chg (fun _ => False) w4 wr) (fun i _ => n - (intOf i).toNat)
  case atStart => exact ⟨0, Nat.zero_le _, rfl, by simp, Chg.refl _ _⟩
  case round =>
    obtain ⟨k, hk, rfl, hp, hC⟩ := hrel
    have HP := hid hp
    clear hp
    by_cases hlt : k < n
    · have hkl : k < L.length := by rw [← HL.out]; exact hlt
      obtain ⟨a, rfl, ha, hwf, x0, x1⟩ := rg_at (H4.out.chg hC (fun _ _ h => h)) (List.getElem?_eq_getElem hkl)
      have HT := hid (show L.take (k + 1) = L.take k ++ [L[k]] from List.take_succ_eq_append_getElem hkl)
      generalize L[k] = x at x0 x1 HT
      have HC := hid (hC.trans (chg_box wr (.cells #[.int .i64 x.lo, .int .i64 x.hi] 33)) (fun _ h _ => h))
      clear ha hwf hC hkl
      go_wp2_with fail
      refine (refright_any x _).mono ?_
      rintro e w5 ⟨rfl, h5⟩
      have H6 := hid (HC.out.trans h5 (fun _ h _ => h))
      clear h5
      cases hxr : x.right
      · clear hxr
        go_wp2_with fail
        go_ret
        exact ⟨rfl, (H5.out.trans H6.out (fun _ h _ => h)).below (Nat.le_refl _) (fun _ h => h.elim)⟩
      · have HN := hid (show ∀ y ∈ L.take (k + 1), y.right = true from fun y hy => by
          rw [HT.out] at hy
          rcases List.mem_append.1 hy with hy | hy
          · exact HP.out y hy
          · rw [List.mem_singleton.1 hy]; exact hxr)
        clear hxr
        go_wp2_with fail
        go_roundw
        case measure => simp [intOf]; omega
        case rel => first | exact ⟨k + 1, by omega, by go_num, HN.out, H6.out⟩ | ((repeat apply Exists.intro); exact ⟨⟨k + 1, by omega, by go_num, HN.out, H6.out⟩, rfl⟩)
    · exfalso
      obtain rfl : k = n := by omega
      refine HR.out fun x hx => HP.out x ?_
      rw [List.take_of_length_le (by rw [← HL.out]; exact Nat.le_refl _)]
      exact hx

theorem OutI.get {w wr : World} {A : Option Addr} {m c b : Nat} (h : OutI w wr (.slice A m c) b) {k : Nat} (hk : k < m) : ∃ g x, A = some ⟨g, 0, none⟩ ∧ wr.cell? ⟨g, k, none⟩ = some (.int .i64 x) ∧ (Lit.int .i64 x).wf = true := by
  obtain ⟨l, h1, h2, h3, h4⟩ := h
  have hm : m = l.length := by
    obtain ⟨A', c', he⟩ := h3.form
    injection he
  have hkl : k < l.length := by omega
  obtain ⟨g, cs, hA, hgS, hgl, hK, hcl⟩ := h3.get (by decide) (List.getElem?_eq_getElem hkl)
  obtain ⟨rfl, hw⟩ := hK
  refine ⟨g, l[k], hA, ?_, hw⟩
  have := hcl 0 _ rfl
  rw [show k * (Ty.int .i64).sz + 0 = k from Nat.mul_one k] at this
  exact this

set_option maxHeartbeats 4000000 in
set_option maxRecDepth 100000 in
theorem makes_yes (w : World) (A : Option Addr) (n c : Nat) (L : List Rg) (ha : Ty.At rgK w (fun k => k < w.heap.size) A n c L) (ask : Int) (hn : n ≤ 40) (hr : ∀ x ∈ L, x.right = true) :
    Calls Try.prog 4 #[.slice A n c, .int .i64 ask] w fun e w' => e = .returned (.bool true) ∧ Below w.heap.size w w' := by
  have HA := hid ha
  have HR := hid hr
  have HL := hid ha.1
  have hn2 : (n : Int) ≤ 40 := by omega
  clear ha hr
  go_enter Try.func4, Try.ntmps4
  go_wp2_with fail
  refine (anchor_any w).mono ?_
  rintro e w2 ⟨rfl, h2⟩
  have H2 := hid h2
  clear h2
  go_wp2_with fail
  refine (make_ok (HA.out.chg H2.out (fun _ _ h => h)) (by omega) HR.out).mono ?_
  rintro e w3 ⟨v, q, rfl, ⟨p1, p2, p3⟩, h3, h3c⟩
  obtain ⟨A2, c2, m, rfl, hm, h6⟩ := own_form_len h3
  have HM := hid hm
  have P1 := hid p1
  have P2 := hid p2
  have hmb : m ≤ 40 := by omega
  have HQ := hid h6
  have H3 := hid (H2.out.trans h3c (fun _ h _ => h))
  clear h3 h3c h6 p1 p2 p3 hm
  go_wp2_with fail
  refine (ranges_any (HA.out.chg H3.out (fun _ _ h => h)) (by omega)).mono ?_
  rintro e w4 ⟨B, d, rfl, h4, h5⟩
  have H4 := hid h4
  have HQ4 := hid (HQ.out.chg h5 (fun _ _ h => h))
  have H5 := hid (H3.out.trans h5 (fun _ h _ => h))
  clear h4 h5
  go_wp2_with fail
  go_loopw [26] (fun i wr => ∃ k : Nat, k ≤ n ∧ i = .int .i64 k ∧ Chg (fun _ => False) w4 wr) (fun i _ => n - (intOf i).toNat)
  case atStart => exact ⟨0, Nat.zero_le _, rfl, Chg.refl _ _⟩
  case round =>
    obtain ⟨k, hk, rfl, hC⟩ := hrel
    by_cases hlt : k < n
    · have hkl : k < L.length := by rw [← HL.out]; exact hlt
      obtain ⟨a, rfl, ha, hwf, x0, x1⟩ := rg_at (H4.out.chg hC (fun _ _ h => h)) (List.getElem?_eq_getElem hkl)
      have HXR := hid (HR.out _ (List.getElem_mem hkl))
      generalize L[k] = x at x0 x1 HXR
      have HC := hid (hC.trans (chg_box wr (.cells #[.int .i64 x.lo, .int .i64 x.hi] 33)) (fun _ h _ => h))
      clear ha hwf hC hkl
      go_wp2_with fail
      refine (refright_any x _).mono ?_
      rintro e w5 ⟨rfl, h5⟩
      have H6 := hid (HC.out.trans h5 (fun _ h _ => h))
      clear h5
      rw [HXR.out]
      go_wp2_with fail
      go_roundw
      case measure => simp [intOf]; omega
      case rel => first | exact ⟨k + 1, by omega, by go_num, H6.out⟩ | ((repeat apply Exists.intro); exact ⟨⟨k + 1, by omega, by go_num, H6.out⟩, rfl⟩)
    · have HC := hid hC
      have H6 := hid (H5.out.trans hC (fun _ h _ => h))
      clear hC
      go_wp2_with fail
      refine (isnormal_any (HQ4.out.chg HC.out (fun _ _ h => h)) (by omega)).mono ?_
      rintro e w5 ⟨rfl, h5⟩
      have H7 := hid (HC.out.trans h5 (fun _ h _ => h))
      clear h5
      rw [P1.out]
      go_wp2_with fail
      refine (ranges_any (HQ4.out.chg H7.out (fun _ _ h => h)) (by omega)).mono ?_
      rintro e w6 ⟨B2, d2, rfl, h6, h7⟩
      have G6 := hid h6
      have H8 := hid (H7.out.trans h7 (fun _ h _ => h))
      clear h6 h7
      go_wp2_with fail
      refine (refnormal_any G6.out (by omega)).mono ?_
      rintro e w7 ⟨rfl, h7⟩
      have H9 := hid (H8.out.trans h7 (fun _ h _ => h))
      clear h7
      rw [P1.out]
      go_wp2_with fail
      refine (has_any ask (HQ4.out.chg H9.out (fun _ _ h => h)) (by omega)).mono ?_
      rintro e w8 ⟨rfl, h8⟩
      have H10 := hid (H9.out.trans h8 (fun _ h _ => h))
      clear h8
      rw [P2.out]
      go_wp2_with fail
      refine (refhas_any ask (H4.out.chg H10.out (fun _ _ h => h)) (by omega)).mono ?_
      rintro e w9 ⟨rfl, rfl⟩
      go_wp2_with fail
      refine (edges_any (T := fun _ => False) (ys := []) (H4.out.chg H10.out (fun _ _ h => h)) (show Ty.At rgK _ (fun _ => False) none 0 0 [] from ⟨rfl, Nat.le_refl _, by simp [maxLen], fun _ => rfl, [], Sees.nil _ _ _, Ty.Row.nil _ _ _⟩) (by omega) (by omega) HR.out (by simp)).mono ?_
      rintro e w10 ⟨v, rfl, hO⟩
      obtain ⟨A5, m5, c5, rfl, hm5⟩ := hO.form
      have HO := hid hO
      have H11 := hid (H10.out.trans hO.same (fun _ h _ => h))
      clear hO
      go_wp2_with fail
      go_loopw [66] (fun i wr => ∃ k : Nat, k ≤ m5 ∧ i = .int .i64 k ∧ Chg (fun _ => False) w10 wr) (fun i _ => m5 - (intOf i).toNat)
      case atStart => exact ⟨0, Nat.zero_le _, rfl, Chg.refl _ _⟩
      case round =>
        obtain ⟨j, hj, rfl, hC⟩ := hrel
        have HC2 := hid hC
        have H12 := hid (H11.out.trans hC (fun _ h _ => h))
        by_cases hjl : j < m5
        · obtain ⟨g, x, hA5, y0, hwx⟩ := (HO.out.chg hC).get hjl
          subst hA5
          clear hC hwx
          go_wp2_with fail
          refine (has_any x (HQ4.out.chg H12.out (fun _ _ h => h)) (by omega)).mono ?_
          rintro e w11 ⟨rfl, h11⟩
          have H13 := hid (H12.out.trans h11 (fun _ h _ => h))
          have H14 := hid (HC2.out.trans h11 (fun _ h _ => h))
          clear h11 y0
          rw [P2.out]
          go_wp2_with fail
          refine (refhas_any x (H4.out.chg H13.out (fun _ _ h => h)) (by omega)).mono ?_
          rintro e w12 ⟨rfl, rfl⟩
          go_wp2_with fail
          go_roundw
          case measure => simp [intOf]; omega
          case rel => first | exact ⟨j + 1, by omega, by go_num, H14.out⟩ | ((repeat apply Exists.intro); exact ⟨⟨j + 1, by omega, by go_num, H14.out⟩, rfl⟩)
        · clear hC
          go_wp2_with fail
          go_ret
          exact ⟨rfl, (H5.out.trans H12.out (fun _ h _ => h)).below (Nat.le_refl _) (fun _ h => h.elim)⟩

theorem ClassMakes_walk (w : World) (A : Option Addr) (n c : Nat) (L : List Rg) (ha : Ty.At rgK w (fun k => k < w.heap.size) A n c L) (ask : Int) (hask : (Lit.int .i64 ask).wf = true) :
    Calls Try.prog 4 #[.slice A n c, .int .i64 ask] w fun e w' => e = .returned (.bool true) ∧ Below w.heap.size w w' := by
  by_cases h : n ≤ 40
  · by_cases hr : ∀ x ∈ L, x.right = true
    · exact makes_yes w A n c L ha ask h hr
    · exact makes_no w A n c L ha ask h hr
  · exact makes_out w A n c ask (by omega)
end Go.Proofs.Ytoojifcpjbakgaa.Cl
