/- The walk of the law ClassFolds. -/
import Derived.Test.YtoojifcpjbakgaaWClassMakes
namespace Go.Proofs.Ytoojifcpjbakgaa.Cl
set_option linter.unusedVariables false
set_option linter.unusedSimpArgs false
open Go.RowKit Go.Proofs.Ytoojifcpjbakgaa.C Go.Shelf
attribute [local go_sem] max2_int min2_int max_two min_two

set_option maxHeartbeats 4000000 in
set_option maxRecDepth 100000 in
theorem nots_out (w : World) (A : Option Addr) (n c : Nat) (ask : Int) (hn : 40 < n) :
    Calls Try.prog 5 #[.slice A n c, .int .i64 ask] w fun e w' => e = .returned (.bool true) ∧ Below w.heap.size w w' := by
  have hn2 : (40 : Int) < (n : Int) := by omega
  clear hn
  go_enter Try.func5, Try.ntmps5
  go_wp2_with fail
  refine (anchor_any w).mono ?_
  rintro e w2 ⟨rfl, h2⟩
  have H2 := hid h2
  clear h2
  go_wp2_with fail
  go_ret
  exact ⟨rfl, H2.out.below (Nat.le_refl _) (fun _ h => h.elim)⟩
set_option maxHeartbeats 4000000 in
set_option maxRecDepth 100000 in
theorem folds_out (w : World) (A : Option Addr) (n c : Nat) (ask : Int) (hn : 40 < n) :
    Calls Try.prog 6 #[.slice A n c, .int .i64 ask] w fun e w' => e = .returned (.bool true) ∧ Below w.heap.size w w' := by
  have hn2 : (40 : Int) < (n : Int) := by omega
  clear hn
  go_enter Try.func6, Try.ntmps6
  go_wp2_with fail
  refine (anchor_any w).mono ?_
  rintro e w2 ⟨rfl, h2⟩
  have H2 := hid h2
  clear h2
  go_wp2_with fail
  go_ret
  exact ⟨rfl, H2.out.below (Nat.le_refl _) (fun _ h => h.elim)⟩

theorem int_appL {ops : Array Oper} {rest : List Oper} {o : Oper} {a : Act} {Q : Exit → Act → World → Prop} (w0 wr : World) (hgd : o.guard = none) (s x : Operand)
    (ho : o.op = .call { callee := .builtin .append, args := #[s, x], argTypes := #[38, 38] })
    (A : Option Addr) (m c b : Nat) (v : Int) (hs : a.eval s = .slice A m c) (hO : OutI w0 wr (.slice A m c) b) (hv : (Lit.int .i64 v).wf = true) (hx : a.eval x = .slice (some ⟨wr.heap.size, 0, none⟩) 1 1) (hb : b ≤ 1000000)
    (h : ∀ A' m' c' w', m' = m + 1 → OutI w0 w' (.slice A' m' c') (b + 1) → Chg (fun k => (Value.slice A m c).ownBlock = some k) wr w' → wpList Try.prog ops Q rest (a.put o.dst (.slice A' m' c')) w') :
    wpList Try.prog ops Q (o :: rest) a (wr.alloc (.cells #[.int .i64 v] 3)) :=
  int_app w0 wr hgd s x ho A m c b v hs hO hv hx hb fun A' c' w' h1 h2 => h A' (m + 1) c' w' rfl h1 h2
theorem at_nil (w : World) : Ty.At rgK w (fun _ => False) none 0 0 [] := ⟨rfl, Nat.le_refl _, by simp [maxLen], fun _ => rfl, [], Sees.nil _ _ _, Ty.Row.nil _ _ _⟩
theorem twin_wf {u : Int} (h : (Lit.int .i64 u).wf = true) : (Lit.int .i64 (twin u)).wf = true := by
  have := wf64 h
  unfold twin
  split
  · exact int_wf (by omega) (by omega)
  · split
    · exact int_wf (by omega) (by omega)
    · exact h

set_option maxHeartbeats 4000000 in
set_option maxRecDepth 100000 in
theorem folds_no (w : World) (A : Option Addr) (n c : Nat) (L : List Rg) (ha : Ty.At rgK w (fun k => k < w.heap.size) A n c L) (ask : Int) (hask : (Lit.int .i64 ask).wf = true) (hn : n ≤ 40) (hr : nrm L = false) :
    Calls Try.prog 6 #[.slice A n c, .int .i64 ask] w fun e w' => e = .returned (.bool true) ∧ Below w.heap.size w w' := by
  have HA := hid ha
  have HR := hid hr
  have HW := hid hask
  have hn2 : (n : Int) ≤ 40 := by omega
  clear ha hr hask
  go_enter Try.func6, Try.ntmps6
  go_wp2_with fail
  refine (anchor_any w).mono ?_
  rintro e w2 ⟨rfl, h2⟩
  have H2 := hid h2
  clear h2
  go_wp2_with fail
  refine (ranges_any (HA.out.chg H2.out (fun _ _ h => h)) (by omega)).mono ?_
  rintro e w3 ⟨B, d, rfl, h4, h5⟩
  have H4 := hid h4
  have H5 := hid (H2.out.trans h5 (fun _ h _ => h))
  clear h4 h5
  go_wp2_with fail
  refine (fold_no (HA.out.chg H5.out (fun _ _ h => h)) (by omega) HR.out).mono ?_
  rintro e w4 ⟨rfl, h3⟩
  have H6 := hid (H5.out.trans h3 (fun _ h _ => h))
  have H7 := hid (H4.out.chg h3 (fun _ _ h => h))
  clear h3
  go_wp2_with fail
  refine (twin_any ask _ HW.out).mono ?_
  rintro e w5 ⟨rfl, rfl⟩
  go_wp2_with fail
  refine (reftwin_any ask _).mono ?_
  rintro e w6 ⟨rfl, rfl⟩
  go_wp2_with fail
  refine (twin_any ask _ HW.out).mono ?_
  rintro e w7 ⟨rfl, rfl⟩
  go_wp2_with fail
  refine (twin_any _ _ (twin_wf HW.out)).mono ?_
  rintro e w8 ⟨rfl, rfl⟩
  rw [twin_twin]
  go_wp2_with fail
  refine (refnormal_any H7.out (by omega)).mono ?_
  rintro e w9 ⟨rfl, h9⟩
  rw [HR.out]
  have H8 := hid (H6.out.trans h9 (fun _ h _ => h))
  clear h9
  go_wp2_with fail
  go_ret
  exact ⟨rfl, H8.out.below (Nat.le_refl _) (fun _ h => h.elim)⟩

set_option maxHeartbeats 4000000 in
set_option maxRecDepth 100000 in
theorem folds_yes (w : World) (A : Option Addr) (n c : Nat) (L : List Rg) (ha : Ty.At rgK w (fun k => k < w.heap.size) A n c L) (ask : Int) (hask : (Lit.int .i64 ask).wf = true) (hn : n ≤ 40) (hr : nrm L = true) :
    Calls Try.prog 6 #[.slice A n c, .int .i64 ask] w fun e w' => e = .returned (.bool true) ∧ Below w.heap.size w w' := by
  have HA := hid ha
  have HR := hid hr
  have HW := hid hask
  have hn2 : (n : Int) ≤ 40 := by omega
  clear ha hr hask
  go_enter Try.func6, Try.ntmps6
  go_wp2_with fail
  refine (anchor_any w).mono ?_
  rintro e w2 ⟨rfl, h2⟩
  have H2 := hid h2
  clear h2
  go_wp2_with fail
  refine (ranges_any (HA.out.chg H2.out (fun _ _ h => h)) (by omega)).mono ?_
  rintro e w3 ⟨B, d, rfl, h4, h5⟩
  have H4 := hid h4
  have H5 := hid (H2.out.trans h5 (fun _ h _ => h))
  clear h4 h5
  go_wp2_with fail
  refine (fold_ok (HA.out.chg H5.out (fun _ _ h => h)) (by omega) HR.out).mono ?_
  rintro e w4 ⟨v, q, rfl, ⟨p1, p2, p3⟩, h3, h3c⟩
  obtain ⟨A2, c2, m, rfl, hm, h6⟩ := own_form_len h3
  have P1 := hid p1
  have P2 := hid p2
  have hmb : m ≤ 92 := by omega
  have HQ := hid h6
  have H6 := hid (H5.out.trans h3c (fun _ h _ => h))
  have H7 := hid (H4.out.chg h3c (fun _ _ h => h))
  clear h3 h3c h6 p1 p2 p3 hm
  go_wp2_with fail
  refine (twin_any ask _ HW.out).mono ?_
  rintro e w5 ⟨rfl, rfl⟩
  go_wp2_with fail
  refine (reftwin_any ask _).mono ?_
  rintro e w6 ⟨rfl, rfl⟩
  go_wp2_with fail
  refine (twin_any ask _ HW.out).mono ?_
  rintro e w7 ⟨rfl, rfl⟩
  go_wp2_with fail
  refine (twin_any _ _ (twin_wf HW.out)).mono ?_
  rintro e w8 ⟨rfl, rfl⟩
  rw [twin_twin]
  go_wp2_with fail
  refine (refnormal_any H7.out (by omega)).mono ?_
  rintro e w9 ⟨rfl, h9⟩
  rw [HR.out]
  have H8 := hid h9
  clear h9
  go_wp2_with fail
  refine (edges_any (T := fun _ => False) (ys := []) (H7.out.chg H8.out (fun _ _ h => h)) (at_nil _) (by omega) (by omega) (nrm_right HR.out) (by simp)).mono ?_
  rintro e w10 ⟨v, rfl, hO⟩
  obtain ⟨A5, m5, c5, rfl, hm5⟩ := hO.form
  have HO := hid hO
  clear hO
  go_wp2_with (first | (at_builtin; refine int_app w9 w10 rfl (.tmp 47) (.tmp 49) rfl A5 m5 c5 _ ask rfl HO.out HW.out rfl (by omega) ?_; intro A6 c6 w11 h6 h7; have HO2 := hid h6; clear h6 h7))
  have H9 := hid (H8.out.trans HO2.out.same (fun _ h _ => h))
  have HQ9 := hid (HQ.out.chg H9.out (fun _ _ h => h))
  have HX9 := hid (H7.out.chg H9.out (fun _ _ h => h))
  have HW9 := hid (H6.out.trans H9.out (fun _ h _ => h))
  go_loopw [52] (fun i wr => ∃ k : Nat, k ≤ m5 + 1 ∧ i = .int .i64 k ∧ Chg (fun _ => False) w11 wr) (fun i _ => m5 + 1 - (intOf i).toNat)
  case atStart => exact ⟨0, Nat.zero_le _, rfl, Chg.refl _ _⟩
  case round =>
    obtain ⟨j, hj, rfl, hC⟩ := hrel
    have HC := hid hC
    by_cases hjl : j < m5 + 1
    · have hjl2 : (j : Int) < (m5 : Int) + 1 := by omega
      obtain ⟨g, x, hA5, y0, hwx⟩ := (HO2.out.chg hC).get hjl
      subst hA5
      have HWX := hid hwx
      clear hC hwx
      go_wp2_with fail
      refine (has_any x (HQ9.out.chg HC.out (fun _ _ h => h)) (by omega)).mono ?_
      rintro e w12 ⟨rfl, h11⟩
      have H13 := hid (HC.out.trans h11 (fun _ h _ => h))
      clear h11 y0
      rw [P2.out]
      go_wp2_with fail
      refine (refhas_any x (HX9.out.chg H13.out (fun _ _ h => h)) (by omega)).mono ?_
      rintro e w13 ⟨rfl, rfl⟩
      cases hxl : has L x
      · go_wp2_with fail
        refine (reftwin_any x _).mono ?_
        rintro e w14 ⟨rfl, rfl⟩
        go_wp2_with fail
        refine (refhas_any (twin x) (HX9.out.chg H13.out (fun _ _ h => h)) (by omega)).mono ?_
        rintro e w15 ⟨rfl, rfl⟩
        go_wp2_with fail
        go_roundw
        case measure => simp [intOf]; omega
        case rel => first | exact ⟨j + 1, by omega, by go_num, H13.out⟩ | ((repeat apply Exists.intro); exact ⟨⟨j + 1, by omega, by go_num, H13.out⟩, rfl⟩)
      · go_wp2_with fail
        go_roundw
        case measure => simp [intOf]; omega
        case rel => first | exact ⟨j + 1, by omega, by go_num, H13.out⟩ | ((repeat apply Exists.intro); exact ⟨⟨j + 1, by omega, by go_num, H13.out⟩, rfl⟩)
    · clear hC
      have hjl2 : ¬ (j : Int) < (m5 : Int) + 1 := by omega
      go_wp2_with fail
      refine (fold_ok (HQ9.out.chg HC.out (fun _ _ h => h)) (by omega) P1.out).mono ?_
      rintro e w12 ⟨v, q2, rfl, ⟨p1, p2, p3⟩, h3, h3c⟩
      obtain ⟨A7, c7, m7, rfl, hm7, h7⟩ := own_form_len h3
      have hm7b : m7 ≤ 200 := by omega
      have HEQ := hid (show q = q2 from ext P1.out p1 (fun u => by rw [p2, P2.out, P2.out, twin_twin]; cases has L u <;> cases has L (twin u) <;> rfl))
      have HQ2 := hid h7
      have HC2 := hid (HC.out.trans h3c (fun _ h _ => h))
      clear h3 h3c h7 p1 p2 p3 hm7
      go_wp2_with fail
      refine (isnormal_any (HQ9.out.chg HC2.out (fun _ _ h => h)) (by omega)).mono ?_
      rintro e w13 ⟨rfl, h13⟩
      have HC3 := hid (HC2.out.trans h13 (fun _ h _ => h))
      have HQ3 := hid (HQ2.out.chg h13 (fun _ _ h => h))
      clear h13
      rw [P1.out]
      go_wp2_with fail
      refine (same_any (HQ9.out.chg HC3.out (fun _ _ h => h)) HQ3.out (by omega) (by omega)).mono ?_
      rintro e w14 ⟨rfl, h14⟩
      rw [decide_eq_true HEQ.out]
      have HC4 := hid (HC3.out.trans h14 (fun _ h _ => h))
      clear h14
      go_wp2_with fail
      go_ret
      exact ⟨rfl, (HW9.out.trans HC4.out (fun _ h _ => h)).below (Nat.le_refl _) (fun _ h => h.elim)⟩

theorem ClassFolds_walk (w : World) (A : Option Addr) (n c : Nat) (L : List Rg) (ha : Ty.At rgK w (fun k => k < w.heap.size) A n c L) (ask : Int) (hask : (Lit.int .i64 ask).wf = true) :
    Calls Try.prog 6 #[.slice A n c, .int .i64 ask] w fun e w' => e = .returned (.bool true) ∧ Below w.heap.size w w' := by
  by_cases h : n ≤ 40
  · cases hr : nrm L
    · exact folds_no w A n c L ha ask hask h hr
    · exact folds_yes w A n c L ha ask hask h hr
  · exact folds_out w A n c ask (by omega)
end Go.Proofs.Ytoojifcpjbakgaa.Cl
