/- The contracts of Or, And. -/
import Derived.Test.YtoojifcpjbakgaaClassO
namespace Go.Proofs.Ytoojifcpjbakgaa.Cl
set_option linter.unusedVariables false
set_option linter.unusedSimpArgs false
open Go.RowKit Go.Proofs.Ytoojifcpjbakgaa.C Go.Shelf
attribute [local go_sem] max2_int min2_int max_two min_two

theorem own_set_up {w w2 w' : World} {v : Value} {q : List Rg} (h : Vec rgK 46 w' (fun k => w2.heap.size ≤ k) (fun _ => False) v q) (hs : w.heap.size ≤ w2.heap.size) : Vec rgK 46 w' (fun k => w.heap.size ≤ k) (fun _ => False) v q :=
  h.mono (fun k hk _ => Nat.le_trans hs hk) (fun _ h _ => h)
theorem own_form_len {w' : World} {S D : Nat → Prop} {e : Nat} {v : Value} {q : List Rg} (h : Vec rgK e w' S D v q) : ∃ A c m, v = .slice A m c ∧ m = q.length ∧ Ty.At rgK w' (fun k => S k ∨ D k) A m c q := by
  obtain ⟨A, c, rfl⟩ := h.form
  exact ⟨A, c, q.length, rfl, rfl, h.at⟩
theorem nrm_all {xs : List Rg} (h : nrm xs = true) : ∀ x ∈ xs, x.right = true := nrm_right h

/-- Two slices in a block. -/
theorem pair_lo (w : World) (a b : Value) (e : TypeId) : (w.alloc (.cells #[a, b] e)).cell? ⟨w.heap.size, 0, none⟩ = some a := by rw [cellAt (blk_new w _)]; rfl
theorem pair_hi (w : World) (a b : Value) (e : TypeId) : (w.alloc (.cells #[a, b] e)).cell? ⟨w.heap.size, 1, none⟩ = some b := by rw [cellAt (blk_new w _)]; rfl

set_option maxHeartbeats 2000000 in
theorem or_ok {S T : Nat → Prop} {xs ys : List Rg} {w : World} {A B : Option Addr} {n c m d : Nat} (hx : Ty.At rgK w S A n c xs) (hy : Ty.At rgK w T B m d ys) (hok : n ≤ 50000) (hok2 : m ≤ 50000) (hnx : nrm xs = true) (hny : nrm ys = true) :
    Calls Try.prog 25 #[.slice A n c, .slice B m d] w (OwnSetE 0 w fun q => nrm q = true ∧ (∀ u, has q u = (has xs u || has ys u)) ∧ q.length ≤ n + m) := by
  have HX := hid hx
  have HY := hid hy
  have NX := hid hnx
  have NY := hid hny
  have LX := hid hx.1
  have LY := hid hy.1
  clear hx hy hnx hny
  go_enter Try.func25, Try.ntmps25
  go_wp2_with fail
  refine (isnormal_any HX.out (by omega)).mono ?_
  rintro e w2 ⟨rfl, h2⟩
  have H2 := hid h2
  clear h2
  rw [NX.out]
  go_wp2_with fail
  refine (isnormal_any (HY.out.chg H2.out (fun _ _ h => h)) (by omega)).mono ?_
  rintro e w3 ⟨rfl, h3⟩
  have H3 := hid (H2.out.trans h3 (fun _ h _ => h))
  clear h3
  rw [NY.out]
  go_wp2_with fail
  obtain ⟨W, hW⟩ : ∃ W, W = w3.alloc (.cells #[.slice A n c, .slice B m d] 24) := ⟨_, rfl⟩
  have HW := hid (show Chg (fun _ => False) w W by rw [hW]; exact H3.out.alloc _)
  have P0 := hid (show W.cell? ⟨w3.heap.size, 0, none⟩ = some (.slice A n c) by rw [hW]; exact pair_lo _ _ _ _)
  have P1 := hid (show W.cell? ⟨w3.heap.size, 1, none⟩ = some (.slice B m d) by rw [hW]; exact pair_hi _ _ _ _)
  rw [← hW]
  clear hW
  refine (concat_any (HX.out.chg HW.out (fun _ _ h => h)) (HY.out.chg HW.out (fun _ _ h => h)) (by omega) (by omega) P0.out P1.out).mono ?_
  rintro e w4 ⟨v, q, rfl, rfl, h4, h5⟩
  obtain ⟨A4, c4, m4, rfl, hm4, h6⟩ := own_form_len h4
  have H4 := hid (HW.out.trans h5 (fun _ h _ => h))
  have H6 := hid h6
  have hmn : m4 = n + m := by rw [hm4, List.length_append, ← LX.out, ← LY.out]
  have hm5 : m4 ≤ 100000 := by omega
  have HMN := hid hmn
  clear hmn
  clear h4 h5 h6 hm4
  go_wp2_with fail
  refine (normal_any H6.out hm5 (fun x hx => by
    rcases List.mem_append.1 hx with hx | hx
    · exact nrm_right NX.out x hx
    · exact nrm_right NY.out x hx)).mono ?_
  rintro e w5 ⟨v, q, rfl, ⟨h7, h7', h7l⟩, h8, h9⟩
  rw [HMN.out] at h7l
  have HQL := hid h7l
  clear h7l
  have H7 := hid h7
  have H7' := hid (show ∀ u, has q u = (has xs u || has ys u) from fun u => by rw [h7', has_append])
  have H8 := hid (own_set_up h8 H4.out.size)
  have H9 := hid (H4.out.trans h9 (fun _ h _ => h))
  clear h7 h7' h8 h9
  go_wp2_with fail
  refine bodyPost_ret (v := .tuple #[v, .int .i64 0]) (by simp [results, Try.results25, go_sem]) rfl ?_
  exact ⟨_, _, rfl, ⟨H7.out, H7'.out, HQL.out⟩, H8.out, H9.out⟩
set_option maxHeartbeats 2000000 in
theorem and_ok {S T : Nat → Prop} {xs ys : List Rg} {w : World} {A B : Option Addr} {n c m d : Nat} (hx : Ty.At rgK w S A n c xs) (hy : Ty.At rgK w T B m d ys) (hok : n ≤ 40000) (hok2 : m ≤ 40000) (hnx : nrm xs = true) (hny : nrm ys = true) :
    Calls Try.prog 26 #[.slice A n c, .slice B m d] w (OwnSetE 0 w fun q => nrm q = true ∧ (∀ u, has q u = (has xs u && has ys u)) ∧ q.length ≤ n + m + 3) := by
  have HX := hid hx
  have HY := hid hy
  have NX := hid hnx
  have NY := hid hny
  have LX := hid hx.1
  have LY := hid hy.1
  clear hx hy hnx hny
  go_enter Try.func26, Try.ntmps26
  go_wp2_with fail
  refine (isnormal_any HX.out (by omega)).mono ?_
  rintro e w2 ⟨rfl, h2⟩
  have H2 := hid h2
  clear h2
  rw [NX.out]
  go_wp2_with fail
  refine (isnormal_any (HY.out.chg H2.out (fun _ _ h => h)) (by omega)).mono ?_
  rintro e w3 ⟨rfl, h3⟩
  have H3 := hid (H2.out.trans h3 (fun _ h _ => h))
  clear h3
  rw [NY.out]
  go_wp2_with fail
  refine (not_any (HX.out.chg H3.out (fun _ _ h => h)) (by omega) (nrm_right NX.out)).mono ?_
  rintro e w4 ⟨v, q, rfl, rfl, h4, h5⟩
  obtain ⟨A4, c4, m4, rfl, hm4, h6⟩ := own_form_len h4
  have H4 := hid (H3.out.trans h5 (fun _ h _ => h))
  have H6 := hid h6
  have hm5 : m4 ≤ 40001 := by rw [hm4]; have := notFrom_len xs 0; rw [← LX.out] at this; unfold not_; omega
  clear h4 h5 h6 hm4
  go_wp2_with fail
  refine (not_any (HY.out.chg H4.out (fun _ _ h => h)) (by omega) (nrm_right NY.out)).mono ?_
  rintro e w5 ⟨v, q, rfl, rfl, h4, h5⟩
  obtain ⟨A5, c5, m5, rfl, hm6, h6⟩ := own_form_len h4
  have H5 := hid (H4.out.trans h5 (fun _ h _ => h))
  have K6 := hid h6
  have J6 := hid (H6.out.chg h5 (fun _ _ h => h))
  have hm7 : m5 ≤ 40001 := by rw [hm6]; have := notFrom_len ys 0; rw [← LY.out] at this; unfold not_; omega
  clear h4 h5 h6 hm6
  go_wp2_with fail
  obtain ⟨W, hW⟩ : ∃ W, W = w5.alloc (.cells #[.slice A4 m4 c4, .slice A5 m5 c5] 24) := ⟨_, rfl⟩
  have CW := hid (show Chg (fun _ => False) w5 W by rw [hW]; exact chg_box _ _)
  have HW := hid (H5.out.trans CW.out (fun _ h _ => h))
  have P0 := hid (show W.cell? ⟨w5.heap.size, 0, none⟩ = some (.slice A4 m4 c4) by rw [hW]; exact pair_lo _ _ _ _)
  have P1 := hid (show W.cell? ⟨w5.heap.size, 1, none⟩ = some (.slice A5 m5 c5) by rw [hW]; exact pair_hi _ _ _ _)
  rw [← hW]
  clear hW
  refine (concat_any (J6.out.chg CW.out (fun _ _ h => h)) (K6.out.chg CW.out (fun _ _ h => h)) (by omega) (by omega) P0.out P1.out).mono ?_
  rintro e w6 ⟨v, q, rfl, rfl, h4, h5⟩
  obtain ⟨A6, c6, m6, rfl, hm4, h6⟩ := own_form_len h4
  have H8 := hid (HW.out.trans h5 (fun _ h _ => h))
  have H9 := hid h6
  have HML := hid (show m6 ≤ n + m + 2 by
    have q1 := notFrom_len xs 0
    have q2 := notFrom_len ys 0
    rw [← LX.out] at q1
    rw [← LY.out] at q2
    rw [hm4, List.length_append]
    unfold not_
    omega)
  have hm8 : m6 ≤ 90000 := by have := HML.out; omega
  clear h4 h5 h6 hm4
  go_wp2_with fail
  refine (normal_any H9.out (by omega) (fun x hx => by
    rcases List.mem_append.1 hx with hx | hx
    · exact nrm_right (not_nrm NX.out) x hx
    · exact nrm_right (not_nrm NY.out) x hx)).mono ?_
  rintro e w7 ⟨v, q, rfl, ⟨h7, h7', h7l⟩, h8, h9⟩
  obtain ⟨A7, c7, m7, rfl, hm9, h6⟩ := own_form_len h8
  have N7 := hid h7
  have N8 := hid h7'
  have N6 := hid h6
  have N9 := hid (H8.out.trans h9 (fun _ h _ => h))
  have HQ := hid (show q.length ≤ n + m + 2 from Nat.le_trans h7l HML.out)
  have hm10 : m7 ≤ 100000 := by have := HQ.out; omega
  clear h7l
  clear h7 h7' h8 h9 h6 hm9
  go_wp2_with fail
  refine (not_any N6.out hm10 (nrm_right N7.out)).mono ?_
  rintro e w8 ⟨v, q2, rfl, rfl, h8, h9⟩
  have HN := hid (not_nrm N7.out)
  have HH := hid (show ∀ u, has (not_ q) u = (has xs u && has ys u) from fun u => by
    rw [not_has N7.out, N8.out, has_append, not_has NX.out, not_has NY.out, Bool.eq_iff_iff]
    have q1 := nrm_lo (n := u) NX.out
    have q2 := nrm_lo (n := u) NY.out
    cases hxu : has xs u <;> cases hyu : has ys u <;> simp <;> (try omega)
    · have := q1 hxu
      omega)
  have HV := hid (own_set_up h8 N9.out.size)
  have HC := hid (N9.out.trans h9 (fun _ h _ => h))
  clear h8 h9
  go_wp2_with fail
  refine bodyPost_ret (v := .tuple #[v, .int .i64 0]) (by simp [results, Try.results26, go_sem]) rfl ?_
  exact ⟨_, _, rfl, ⟨HN.out, HH.out, by have q1 := notFrom_len q 0; have q2 := HQ.out; unfold not_; omega⟩, HV.out, HC.out⟩
set_option maxHeartbeats 2000000 in
theorem no25_any {S T : Nat → Prop} {xs ys : List Rg} {w : World} {A B : Option Addr} {n c m d : Nat} (hx : Ty.At rgK w S A n c xs) (hy : Ty.At rgK w T B m d ys) (hok : n ≤ 50000) (hok2 : m ≤ 50000) (hn : (nrm xs && nrm ys) = false) :
    Calls Try.prog 25 #[.slice A n c, .slice B m d] w fun e w' => e = .returned (.tuple #[.slice none 0 0, .int .i64 10]) ∧ Chg (fun _ => False) w w' := by
  have HX := hid hx
  have HY := hid hy
  have HN := hid hn
  clear hx hy hn
  go_enter Try.func25, Try.ntmps25
  go_wp2_with fail
  refine (isnormal_any HX.out (by omega)).mono ?_
  rintro e w2 ⟨rfl, h2⟩
  have H2 := hid h2
  clear h2
  cases hnx : nrm xs
  · clear hnx
    go_wp2_with fail
    refine bodyPost_ret (v := .tuple #[.slice none 0 0, .int .i64 10]) (by simp [results, Try.results25, go_sem]) rfl ?_
    exact ⟨rfl, H2.out⟩
  · have NY := hid (show nrm ys = false by have := HN.out; rw [hnx] at this; simpa using this)
    clear hnx
    go_wp2_with fail
    refine (isnormal_any (HY.out.chg H2.out (fun _ _ h => h)) (by omega)).mono ?_
    rintro e w3 ⟨rfl, h3⟩
    have H3 := hid (H2.out.trans h3 (fun _ h _ => h))
    clear h3
    rw [NY.out]
    go_wp2_with fail
    refine bodyPost_ret (v := .tuple #[.slice none 0 0, .int .i64 10]) (by simp [results, Try.results25, go_sem]) rfl ?_
    exact ⟨rfl, H3.out⟩
set_option maxHeartbeats 2000000 in
theorem no26_any {S T : Nat → Prop} {xs ys : List Rg} {w : World} {A B : Option Addr} {n c m d : Nat} (hx : Ty.At rgK w S A n c xs) (hy : Ty.At rgK w T B m d ys) (hok : n ≤ 50000) (hok2 : m ≤ 50000) (hn : (nrm xs && nrm ys) = false) :
    Calls Try.prog 26 #[.slice A n c, .slice B m d] w fun e w' => e = .returned (.tuple #[.slice none 0 0, .int .i64 10]) ∧ Chg (fun _ => False) w w' := by
  have HX := hid hx
  have HY := hid hy
  have HN := hid hn
  clear hx hy hn
  go_enter Try.func26, Try.ntmps26
  go_wp2_with fail
  refine (isnormal_any HX.out (by omega)).mono ?_
  rintro e w2 ⟨rfl, h2⟩
  have H2 := hid h2
  clear h2
  cases hnx : nrm xs
  · clear hnx
    go_wp2_with fail
    refine bodyPost_ret (v := .tuple #[.slice none 0 0, .int .i64 10]) (by simp [results, Try.results26, go_sem]) rfl ?_
    exact ⟨rfl, H2.out⟩
  · have NY := hid (show nrm ys = false by have := HN.out; rw [hnx] at this; simpa using this)
    clear hnx
    go_wp2_with fail
    refine (isnormal_any (HY.out.chg H2.out (fun _ _ h => h)) (by omega)).mono ?_
    rintro e w3 ⟨rfl, h3⟩
    have H3 := hid (H2.out.trans h3 (fun _ h _ => h))
    clear h3
    rw [NY.out]
    go_wp2_with fail
    refine bodyPost_ret (v := .tuple #[.slice none 0 0, .int .i64 10]) (by simp [results, Try.results26, go_sem]) rfl ?_
    exact ⟨rfl, H3.out⟩
end Go.Proofs.Ytoojifcpjbakgaa.Cl
