/- The contracts of the document's Normal, of both Twins, of slices.Clone, Fold. -/
import Derived.Test.YtoojifcpjbakgaaClassL
namespace Go.Proofs.Ytoojifcpjbakgaa.Cl
set_option linter.unusedVariables false
set_option linter.unusedSimpArgs false
open Go.RowKit Go.Proofs.Ytoojifcpjbakgaa.C Go.Shelf
attribute [local go_sem] max2_int min2_int max_two min_two

/-- Where the range ahead ends. -/
def endAt (xs : List Rg) : Nat → Int
  | 0 => -2
  | k + 1 => ((xs[k]?).map Rg.hi).getD 0

set_option maxHeartbeats 2000000 in
theorem refnormal_any {S : Nat → Prop} {xs : List Rg} {w : World} {A : Option Addr} {n c : Nat} (hv : Ty.At rgK w S A n c xs) (hok : n ≤ 100000) :
    Calls Try.prog 16 #[.slice A n c] w fun e w' => e = .returned (.bool (nrm xs)) ∧ Chg (fun _ => False) w w' := by
  have HV := hid hv
  have HL := hid hv.1
  have hn : (n : Int) ≤ 100000 := by omega
  clear hv
  go_enter Try.func16, Try.ntmps16
  go_wp2_with fail
  go_loopw [3] (fun i wr => ∃ (k : Nat), k ≤ n ∧ i = .int .i64 k ∧ nrm xs = nrmFrom (endAt xs k) (xs.drop k) ∧ (∀ x ∈ xs.take k, x.right = true) ∧ Chg (fun _ => False) w wr) (fun i _ => n - (intOf i).toNat)
  case atStart => exact ⟨0, Nat.zero_le _, rfl, rfl, by simp, Chg.refl _ _⟩
  case round =>
    obtain ⟨k, hk, rfl, he, hrt, hC⟩ := hrel
    have HRT := hid hrt
    by_cases hlt : k < n
    · have hkl : k < xs.length := by rw [← HL.out]; exact hlt
      obtain ⟨a, rfl, ha, hwf, x0, x1⟩ := rg_at (HV.out.chg hC (fun _ _ h => h)) (List.getElem?_eq_getElem hkl)
      have HE := hid (show nrm xs = nrmFrom (endAt xs k) (xs[k] :: xs.drop (k + 1)) by rw [he, List.drop_eq_getElem_cons hkl])
      have HT := hid (show xs.take (k + 1) = xs.take k ++ [xs[k]] from List.take_succ_eq_append_getElem hkl)
      have HEN := hid (show endAt xs (k + 1) = xs[k].hi by show ((xs[k]?).map Rg.hi).getD 0 = _; rw [List.getElem?_eq_getElem hkl]; rfl)
      generalize xs[k] = x at x0 x1 HE hwf HEN HT
      have HC := hid hC
      clear ha hwf he hrt hC
      go_wp2_with fail
      refine (refright_any x _).mono ?_
      rintro e w2 ⟨rfl, h2⟩
      have HC2 := hid (HC.out.trans h2 (fun _ h _ => h))
      have y0 := h2.cell x0 (fun h => h)
      have y1 := h2.cell x1 (fun h => h)
      clear h2 x0 x1
      cases hxr : x.right
      · have HN := hid (show nrm xs = false by rw [HE.out]; simp [nrmFrom, hxr])
        clear hxr hkl
        go_wp2_with fail
        go_ret
        exact ⟨by rw [HN.out]; rfl, HC2.out⟩
      · have hr := right_iff.1 hxr
        have hr1 := hr.1
        have hr2 := hr.2.1
        have hr3 := hr.2.2
        have HR2 := hid (show ∀ y ∈ xs.take (k + 1), y.right = true from fun y hy => by
          rw [HT.out] at hy
          rcases List.mem_append.1 hy with hy | hy
          · exact HRT.out y hy
          · rw [List.mem_singleton.1 hy]; exact hxr)
        have HX := hid hxr
        clear hr hxr
        rcases Nat.eq_zero_or_pos k with h0 | h0
        · subst h0
          have HN := hid (show nrm xs = nrmFrom (endAt xs (0 + 1)) (xs.drop (0 + 1)) by
            rw [HE.out, HEN.out]
            show (x.right && decide ((-2 : Int) + 2 ≤ x.lo) && nrmFrom x.hi _) = _
            rw [HX.out, decide_eq_true (by omega)]
            rfl)
          clear hkl
          go_wp2_with fail
          go_region
          have HC3 := hid (show Chg (fun _ => False) w w2.drew from HC2.out.drew)
          go_wp2_with fail
          go_roundw
          case measure => simp [intOf]; omega
          case rel => first | exact ⟨0 + 1, by omega, by go_num, HN.out, HR2.out, HC3.out⟩ | ((repeat apply Exists.intro); exact ⟨⟨0 + 1, by omega, by go_num, HN.out, HR2.out, HC3.out⟩, rfl⟩)
        · obtain ⟨j, rfl⟩ : ∃ j, k = j + 1 := ⟨k - 1, by omega⟩
          have hjl : j < xs.length := by omega
          obtain ⟨b, hb, hbS, hbw, p0, p1⟩ := rg_at (HV.out.chg HC2.out (fun _ _ h => h)) (List.getElem?_eq_getElem hjl)
          cases hb
          have HEJ := hid (show endAt xs (j + 1) = xs[j].hi by show ((xs[j]?).map Rg.hi).getD 0 = _; rw [List.getElem?_eq_getElem hjl]; rfl)
          have hpr := right_iff.1 (HRT.out xs[j] (List.take_succ_eq_append_getElem hjl ▸ List.mem_append_right _ (List.mem_singleton.2 rfl)))
          generalize xs[j] = p at p0 p1 HEJ hpr
          have hp2 := hpr.2.1
          have hp3 := hpr.2.2
          have hp1 := hpr.1
          clear hbS hbw hkl hjl hpr
          by_cases hgap : x.lo < p.hi + 2
          · have HN := hid (show nrm xs = false by rw [HE.out, HEJ.out]; simp [nrmFrom]; intro _ h; omega)
            go_wp2_with fail
            go_region
            go_wp2_with fail
            go_ret
            exact ⟨by rw [HN.out]; rfl, HC2.out.drew⟩
          · have HN := hid (show nrm xs = nrmFrom (endAt xs (j + 1 + 1)) (xs.drop (j + 1 + 1)) by
              rw [HE.out, HEN.out, HEJ.out]
              show (x.right && decide (p.hi + 2 ≤ x.lo) && nrmFrom x.hi _) = _
              rw [HX.out, decide_eq_true (by omega)]
              rfl)
            go_wp2_with fail
            go_region
            have HC3 := hid (show Chg (fun _ => False) w w2.drew from HC2.out.drew)
            go_wp2_with fail
            go_roundw
            case measure => simp [intOf]; omega
            case rel => first | exact ⟨j + 1 + 1, by omega, by go_num, HN.out, HR2.out, HC3.out⟩ | ((repeat apply Exists.intro); exact ⟨⟨j + 1 + 1, by omega, by go_num, HN.out, HR2.out, HC3.out⟩, rfl⟩)
    · obtain rfl : k = n := by omega
      have HC := hid hC
      have HN := hid (show nrm xs = true by rw [he, List.drop_eq_nil_of_le (by rw [← HL.out]; exact Nat.le_refl _)]; rfl)
      clear he hC hrt
      go_wp2_with fail
      go_ret
      exact ⟨by rw [HN.out]; rfl, HC.out⟩

/-! ### Twins -/
def twin (u : Int) : Int := if 97 ≤ u ∧ u < 123 then u - 32 else if 65 ≤ u ∧ u < 91 then u + 32 else u
theorem twin_twin (u : Int) : twin (twin u) = u := by
  unfold twin
  repeat' split
  all_goals omega
set_option maxHeartbeats 1000000 in
theorem twin_any (u : Int) (w : World) (hu : (Lit.int .i64 u).wf = true) : Calls Try.prog 23 #[.int .i64 u] w fun e w' => e = .returned (.int .i64 (twin u)) ∧ w' = w := by
  have E := hid (show twin u = if 97 ≤ u ∧ u < 123 then u - 32 else if 65 ≤ u ∧ u < 91 then u + 32 else u from rfl)
  by_cases h1 : 97 ≤ u
  · by_cases h2 : u < 123
    · go_enter Try.func23, Try.ntmps23
      go_wp2
      go_ret
      exact ⟨by rw [E.out, if_pos (by omega)]; rfl, rfl⟩
    · go_enter Try.func23, Try.ntmps23
      go_wp2
      go_ret
      exact ⟨by rw [E.out, if_neg (by omega), if_neg (by omega)]; rfl, rfl⟩
  · by_cases h3 : 65 ≤ u
    · by_cases h4 : u < 91
      · go_enter Try.func23, Try.ntmps23
        go_wp2
        go_ret
        exact ⟨by rw [E.out, if_neg (by omega), if_pos (by omega)]; rfl, rfl⟩
      · go_enter Try.func23, Try.ntmps23
        go_wp2
        go_ret
        exact ⟨by rw [E.out, if_neg (by omega), if_neg (by omega)]; rfl, rfl⟩
    · go_enter Try.func23, Try.ntmps23
      go_wp2
      go_ret
      exact ⟨by rw [E.out, if_neg (by omega), if_neg (by omega)]; rfl, rfl⟩

theorem letters_small (k : Nat) (h : k < 26) : (((({ data := #[97, 98, 99, 100, 101, 102, 103, 104, 105, 106, 107, 108, 109, 110, 111, 112, 113, 114, 115, 116, 117, 118, 119, 120, 121, 122] } : ByteArray)[k]'h).toNat : Nat) : Int) = 97 + (k : Int) := by
  have := (by decide : ∀ j : Fin 26, (({ data := #[97, 98, 99, 100, 101, 102, 103, 104, 105, 106, 107, 108, 109, 110, 111, 112, 113, 114, 115, 116, 117, 118, 119, 120, 121, 122] } : ByteArray)[j.val]'j.isLt).toNat = 97 + j.val) ⟨k, h⟩
  simp only at this
  rw [this]
  omega
theorem letters_big (k : Nat) (h : k < 26) : (((({ data := #[65, 66, 67, 68, 69, 70, 71, 72, 73, 74, 75, 76, 77, 78, 79, 80, 81, 82, 83, 84, 85, 86, 87, 88, 89, 90] } : ByteArray)[k]'h).toNat : Nat) : Int) = 65 + (k : Int) := by
  have := (by decide : ∀ j : Fin 26, (({ data := #[65, 66, 67, 68, 69, 70, 71, 72, 73, 74, 75, 76, 77, 78, 79, 80, 81, 82, 83, 84, 85, 86, 87, 88, 89, 90] } : ByteArray)[j.val]'j.isLt).toNat = 65 + j.val) ⟨k, h⟩
  simp only at this
  rw [this]
  omega
set_option maxHeartbeats 4000000 in
set_option maxRecDepth 100000 in
theorem reftwin_any (u : Int) (w : World) : Calls Try.prog 24 #[.int .i64 u] w fun e w' => e = .returned (.int .i64 (twin u)) ∧ w' = w := by
  have E := hid (show twin u = if 97 ≤ u ∧ u < 123 then u - 32 else if 65 ≤ u ∧ u < 91 then u + 32 else u from rfl)
  go_enter Try.func24, Try.ntmps24
  go_wp2_with fail
  go_loopw [3] (fun i wr => ∃ k : Nat, k ≤ 26 ∧ i = .int .i64 k ∧ (¬ (97 ≤ u ∧ u < 97 + k)) ∧ (¬ (65 ≤ u ∧ u < 65 + k)) ∧ w = wr) (fun i _ => 26 - (intOf i).toNat)
  case atStart => exact ⟨0, by omega, rfl, by omega, by omega, rfl⟩
  case round =>
    obtain ⟨k, hk, rfl, ha, hb, hww⟩ := hrel
    subst hww
    by_cases hlt : k < 26
    · have E97 := hid (show u = 97 + k → twin u = 65 + k from fun h => by rw [E.out, if_pos (by omega)]; omega)
      have E65 := hid (show u = 65 + k → twin u = 97 + k from fun h => by rw [E.out, if_neg (by omega), if_pos (by omega)]; omega)
      have HA := hid (show u ≠ 97 + k → ¬ (97 ≤ u ∧ u < 97 + ((k + 1 : Nat) : Int)) from fun h => by omega)
      have HB := hid (show u ≠ 65 + k → ¬ (65 ≤ u ∧ u < 65 + ((k + 1 : Nat) : Int)) from fun h => by omega)
      clear ha hb
      have es : (((({ data := #[97, 98, 99, 100, 101, 102, 103, 104, 105, 106, 107, 108, 109, 110, 111, 112, 113, 114, 115, 116, 117, 118, 119, 120, 121, 122] } : ByteArray)[k]'hlt).toNat : Nat) : Int) = 97 + (k : Int) := letters_small k hlt
      have eb : (((({ data := #[65, 66, 67, 68, 69, 70, 71, 72, 73, 74, 75, 76, 77, 78, 79, 80, 81, 82, 83, 84, 85, 86, 87, 88, 89, 90] } : ByteArray)[k]'hlt).toNat : Nat) : Int) = 65 + (k : Int) := letters_big k hlt
      by_cases h1 : u = 97 + (k : Int)
      · have T := hid (E97.out h1)
        clear E E97 E65 HA HB
        subst h1
        go_wp2_with fail
        go_ret
        exact ⟨by rw [T.out]; rfl, rfl⟩
      · by_cases h2 : u = 65 + (k : Int)
        · have T := hid (E65.out h2)
          clear E E97 E65 HA HB h1
          subst h2
          go_wp2_with fail
          go_ret
          exact ⟨by rw [T.out]; rfl, rfl⟩
        · have HA2 := hid (HA.out h1)
          have HB2 := hid (HB.out h2)
          clear E97 E65 HA HB
          go_wp2_with fail
          go_roundw
          case measure => simp [intOf]; omega
          case rel => first | exact ⟨k + 1, by omega, by go_num, HA2.out, HB2.out, by first | rfl | trivial⟩ | ((repeat apply Exists.intro); exact ⟨⟨k + 1, by omega, by go_num, HA2.out, HB2.out, by first | rfl | trivial⟩, rfl⟩)
    · obtain rfl : k = 26 := by omega
      have HN := hid (show twin u = u by rw [E.out, if_neg (by omega), if_neg (by omega)])
      go_wp2_with fail
      go_ret
      exact ⟨by rw [HN.out]; rfl, rfl⟩
end Go.Proofs.Ytoojifcpjbakgaa.Cl
