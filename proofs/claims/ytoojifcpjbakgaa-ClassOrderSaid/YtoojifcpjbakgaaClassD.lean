/- The contracts of Make, Normal, Count, not, Not, and the document's Normal, Has. -/
import Derived.Test.YtoojifcpjbakgaaClassN
namespace Go.Proofs.Ytoojifcpjbakgaa.Cl
set_option linter.unusedVariables false
set_option linter.unusedSimpArgs false
open Go.RowKit Go.Proofs.Ytoojifcpjbakgaa.C Go.Shelf
attribute [local go_sem] max2_int min2_int max_two min_two

/-- .. with an error number. -/
def OwnSetE (n : Int) (w : World) (p : List Rg → Prop) (e : Ending) (w' : World) : Prop :=
  ∃ v q, e = .returned (.tuple #[v, .int .i64 n]) ∧ p q ∧ Vec rgK 46 w' (fun k => w.heap.size ≤ k) (fun _ => False) v q ∧ Chg (fun _ => False) w w'

set_option maxHeartbeats 1000000 in
theorem make_ok {S : Nat → Prop} {zs : List Rg} {w : World} {A : Option Addr} {n c : Nat} (hv : Ty.At rgK w S A n c zs) (hok : n ≤ 100000) (hr : ∀ x ∈ zs, x.right = true) :
    Calls Try.prog 11 #[.slice A n c] w (OwnSetE 0 w fun q => nrm q = true ∧ (∀ u, has q u = has zs u) ∧ q.length ≤ n) := by
  have HV := hid hv
  have HR := hid hr
  clear hv hr
  go_enter Try.func11, Try.ntmps11
  go_wp2_with fail
  refine (contains27_any (p := fun x => !x.right) (Go.Proofs.enters_of Try.func28 (by kernel_rfl) rfl) askmake HV.out (by omega)).mono ?_
  rintro e w2 ⟨rfl, h2⟩
  have H2 := hid h2
  clear h2
  rw [show (zs.any fun x => !x.right) = false from by rw [List.any_eq_false]; intro x hx; rw [HR.out x hx]; simp]
  go_wp2_with fail
  refine (normal_any (HV.out.chg H2.out (fun _ _ h => h)) hok HR.out).mono ?_
  rintro e w3 ⟨v, q, rfl, h3, h4, h5⟩
  have H3 := hid h3
  have H4 := hid (h4.mono (S' := fun k => w.heap.size ≤ k) (D' := fun _ => False) (fun k hk _ => Nat.le_trans H2.out.size hk) (fun _ h _ => h))
  have H5 := hid (H2.out.trans h5 (fun _ h _ => h))
  clear h3 h4 h5
  go_wp2_with fail
  refine bodyPost_ret (v := .tuple #[v, .int .i64 0]) (by simp [results, Try.results11, go_sem]) rfl ?_
  exact ⟨_, _, rfl, H3.out, H4.out, H5.out⟩
set_option maxHeartbeats 1000000 in
theorem make_no {S : Nat → Prop} {zs : List Rg} {w : World} {A : Option Addr} {n c : Nat} (hv : Ty.At rgK w S A n c zs) (hok : n ≤ 100000) (hr : ¬ ∀ x ∈ zs, x.right = true) :
    Calls Try.prog 11 #[.slice A n c] w fun e w' => e = .returned (.tuple #[.slice none 0 0, .int .i64 13]) ∧ Chg (fun _ => False) w w' := by
  have HV := hid hv
  have HR := hid hr
  clear hv hr
  go_enter Try.func11, Try.ntmps11
  go_wp2_with fail
  refine (contains27_any (p := fun x => !x.right) (Go.Proofs.enters_of Try.func28 (by kernel_rfl) rfl) askmake HV.out (by omega)).mono ?_
  rintro e w2 ⟨rfl, h2⟩
  have H2 := hid h2
  clear h2
  rw [show (zs.any fun x => !x.right) = true from by
    rw [List.any_eq_true]
    apply Classical.byContradiction
    intro h
    refine HR.out fun x hx => ?_
    cases hxr : x.right
    · exact absurd ⟨x, hx, by rw [hxr]; rfl⟩ h
    · rfl]
  go_wp2_with fail
  refine bodyPost_ret (v := .tuple #[.slice none 0 0, .int .i64 13]) (by simp [results, Try.results11, go_sem]) rfl ?_
  exact ⟨rfl, H2.out⟩

set_option maxHeartbeats 2000000 in
theorem isnormal_any {S : Nat → Prop} {xs : List Rg} {w : World} {A : Option Addr} {n c : Nat} (hv : Ty.At rgK w S A n c xs) (hok : n ≤ 100000) :
    Calls Try.prog 15 #[.slice A n c] w fun e w' => e = .returned (.bool (nrm xs)) ∧ Chg (fun _ => False) w w' := by
  have HV := hid hv
  have HL := hid hv.1
  have hn : (n : Int) ≤ 100000 := by omega
  clear hv
  go_enter Try.func15, Try.ntmps15
  go_wp2_with fail
  go_loopw [3, 8] (fun l i wr => ∃ (k : Nat) (last : Int), k ≤ n ∧ i = .int .i64 k ∧ l = .int .i64 last ∧ -2 ≤ last ∧ last ≤ 1114367 ∧ nrm xs = nrmFrom last (xs.drop k) ∧ Chg (fun _ => False) w wr) (fun _ i _ => n - (intOf i).toNat)
  case atStart => exact ⟨0, -2, Nat.zero_le _, rfl, rfl, by omega, by omega, rfl, Chg.refl _ _⟩
  case round =>
    obtain ⟨k, last, hk, rfl, rfl, hl0, hl1, he, hC⟩ := hrel
    by_cases hlt : k < n
    · have hkl : k < xs.length := by rw [← HL.out]; exact hlt
      obtain ⟨a, rfl, ha, hwf, x0, x1⟩ := rg_at (HV.out.chg hC (fun _ _ h => h)) (List.getElem?_eq_getElem hkl)
      have HE := hid (show nrm xs = nrmFrom last (xs[k] :: xs.drop (k + 1)) by rw [he, List.drop_eq_getElem_cons hkl])
      generalize xs[k] = x at x0 x1 HE hwf
      have HW := hid (show x.wf from hwf)
      have HC := hid hC
      obtain ⟨W1, hW1⟩ : ∃ W1, W1 = wr.alloc (.cells #[.int .i64 x.lo, .int .i64 x.hi] 46) := ⟨_, rfl⟩
      have C1 := hid (show Chg (fun _ => False) wr W1 by rw [hW1]; exact chg_box _ _)
      have bx0 : W1.cell? ⟨wr.heap.size, 0, none⟩ = some (.int .i64 x.lo) := by rw [hW1]; exact box_lo
      have bx1 : W1.cell? ⟨wr.heap.size, 1, none⟩ = some (.int .i64 x.hi) := by rw [hW1]; exact box_hi
      clear ha hwf he hC hkl
      go_wp2_with fail
      rw [← hW1]
      clear hW1
      refine (right_any x _).mono ?_
      rintro e w2 ⟨rfl, h2⟩
      have H2 := hid (C1.out.trans h2 (fun _ h _ => h))
      have HC2 := hid (HC.out.trans H2.out (fun _ h _ => h))
      have y0 := h2.cell bx0 (fun h => h)
      have y1 := h2.cell bx1 (fun h => h)
      clear h2 bx0 bx1 x0 x1
      cases hxr : x.right
      · have HN := hid (show nrm xs = false by rw [HE.out]; simp [nrmFrom, hxr])
        clear hxr
        go_wp2_with fail
        go_ret
        exact ⟨by rw [HN.out]; rfl, HC2.out⟩
      · have hr := right_iff.1 hxr
        have hr1 := hr.1
        have hr2 := hr.2.1
        have hr3 := hr.2.2
        clear hr
        by_cases hgap : x.lo < last + 2
        · have HN := hid (show nrm xs = false by rw [HE.out]; simp [nrmFrom]; intro _ h; omega)
          clear hxr
          go_wp2_with fail
          go_ret
          exact ⟨by rw [HN.out]; rfl, HC2.out⟩
        · have HN := hid (show nrm xs = nrmFrom x.hi (xs.drop (k + 1)) by
            rw [HE.out]
            show (x.right && decide (last + 2 ≤ x.lo) && nrmFrom x.hi _) = _
            rw [hxr, decide_eq_true (by omega)]
            rfl)
          clear hxr
          go_wp2_with fail
          go_roundw
          case measure => simp [intOf]; omega
          case rel => first | exact ⟨k + 1, x.hi, by omega, by go_num, rfl, by omega, by omega, HN.out, HC2.out⟩ | ((repeat apply Exists.intro); exact ⟨⟨k + 1, x.hi, by omega, by go_num, rfl, by omega, by omega, HN.out, HC2.out⟩, rfl⟩)
    · obtain rfl : k = n := by omega
      have HC := hid hC
      have HN := hid (show nrm xs = true by rw [he, List.drop_eq_nil_of_le (by rw [← HL.out]; exact Nat.le_refl _)]; rfl)
      clear he hC
      go_wp2_with fail
      go_ret
      exact ⟨by rw [HN.out]; rfl, HC.out⟩

/-- How many numbers ranges have that touch none of each other. -/
def cnt (l : List Rg) : Int := l.foldr (fun r s => r.hi - r.lo + 1 + s) 0
theorem cnt_snoc (l : List Rg) (r : Rg) : cnt (l ++ [r]) = cnt l + (r.hi - r.lo + 1) := by
  induction l with
  | nil => simp [cnt]
  | cons q l ih =>
    show q.hi - q.lo + 1 + cnt (l ++ [r]) = q.hi - q.lo + 1 + cnt l + _
    rw [ih]
    omega
theorem cnt_le : ∀ (l : List Rg), (∀ r ∈ l, r.right = true) → 0 ≤ cnt l ∧ cnt l ≤ 1114368 * l.length
  | [], _ => by simp [cnt]
  | r :: l, h => by
    have ih := cnt_le l (fun x hx => h x (List.mem_cons_of_mem _ hx))
    have hr := right_iff.1 (h r (List.mem_cons_self ..))
    show 0 ≤ r.hi - r.lo + 1 + cnt l ∧ r.hi - r.lo + 1 + cnt l ≤ _
    rw [List.length_cons]
    omega

set_option maxHeartbeats 2000000 in
theorem count_any {S : Nat → Prop} {xs : List Rg} {w : World} {A : Option Addr} {n c : Nat} (hv : Ty.At rgK w S A n c xs) (hok : n ≤ 100000) (hnr : nrm xs = true) :
    Calls Try.prog 21 #[.slice A n c] w fun e w' => e = .returned (.int .i64 (cnt xs)) ∧ Chg (fun _ => False) w w' := by
  have HV := hid hv
  have HL := hid hv.1
  have HNR := hid hnr
  have hn : (n : Int) ≤ 100000 := by omega
  have HR := hid (nrm_right hnr)
  clear hv hnr
  go_enter Try.func21, Try.ntmps21
  go_wp2_with fail
  refine (isnormal_any HV.out hok).mono ?_
  rintro e w2 ⟨rfl, h2⟩
  have H2 := hid h2
  clear h2
  rw [HNR.out]
  go_wp2_with fail
  go_loopw [3, 10] (fun l i wr => ∃ (k : Nat) (s : Int), k ≤ n ∧ i = .int .i64 k ∧ l = .int .i64 s ∧ s = cnt (xs.take k) ∧ Chg (fun _ => False) w wr) (fun _ i _ => n - (intOf i).toNat)
  case atStart => exact ⟨0, 0, Nat.zero_le _, rfl, rfl, rfl, H2.out⟩
  case round =>
    obtain ⟨k, s, hk, rfl, rfl, he, hC⟩ := hrel
    by_cases hlt : k < n
    · have hkl : k < xs.length := by rw [← HL.out]; exact hlt
      obtain ⟨a, rfl, ha, hwf, x0, x1⟩ := rg_at (HV.out.chg hC (fun _ _ h => h)) (List.getElem?_eq_getElem hkl)
      have hr := right_iff.1 (HR.out _ (List.getElem_mem hkl))
      have HE := hid (show cnt (xs.take (k + 1)) = s + (xs[k].hi - xs[k].lo + 1) by rw [List.take_succ_eq_append_getElem hkl, cnt_snoc, he])
      have hb := cnt_le (xs.take k) (fun r hr => HR.out r (List.mem_of_mem_take hr))
      rw [← he, List.length_take] at hb
      have hb1 := hb.1
      have hb2 : s ≤ 111436800000 := by have := hb.2; omega
      clear hb
      generalize xs[k] = x at x0 x1 HE hwf hr
      have hr1 := hr.1
      have hr2 := hr.2.1
      have hr3 := hr.2.2
      have HC := hid ((hC.alloc (.cells #[.int .i64 x.lo, .int .i64 x.hi] 46)))
      have HC1 := hid ((hC.alloc (.cells #[.int .i64 x.lo, .int .i64 x.hi] 46)).drew)
      clear hr ha hwf he hC hkl
      go_wp2_with fail
      go_roundw
      case measure => simp [intOf]; omega
      case rel => first | exact ⟨k + 1, s + (x.hi - x.lo + 1), by omega, by go_num, by go_num, HE.out.symm, HC.out⟩ | ((repeat apply Exists.intro); exact ⟨⟨k + 1, s + (x.hi - x.lo + 1), by omega, by go_num, by go_num, HE.out.symm, HC.out⟩, rfl⟩)
    · obtain rfl : k = n := by omega
      have HC := hid hC
      have HN := hid (show s = cnt xs by rw [he, List.take_of_length_le (by rw [← HL.out]; exact Nat.le_refl _)])
      clear he hC
      go_wp2_with fail
      go_ret
      exact ⟨by rw [← HN.out]; rfl, HC.out⟩
theorem count_no {S : Nat → Prop} {xs : List Rg} {w : World} {A : Option Addr} {n c : Nat} (hv : Ty.At rgK w S A n c xs) (hok : n ≤ 100000) (hnr : nrm xs = false) :
    Calls Try.prog 21 #[.slice A n c] w fun e w' => e = .returned (.int .i64 0) ∧ Chg (fun _ => False) w w' := by
  have HV := hid hv
  have HNR := hid hnr
  clear hv hnr
  go_enter Try.func21, Try.ntmps21
  go_wp2_with fail
  refine (isnormal_any HV.out hok).mono ?_
  rintro e w2 ⟨rfl, h2⟩
  have H2 := hid h2
  clear h2
  rw [HNR.out]
  go_wp2_with fail
  go_ret
  exact ⟨rfl, H2.out⟩
end Go.Proofs.Ytoojifcpjbakgaa.Cl
