/- The anchor of class; how the laws' arguments open. -/
import Derived.Test.YtoojifcpjbakgaaClassG
namespace Go.Proofs.Ytoojifcpjbakgaa.Cl
set_option linter.unusedVariables false
set_option linter.unusedSimpArgs false
open Go.RowKit Go.Proofs.Ytoojifcpjbakgaa.C Go.Shelf
attribute [local go_sem] max2_int min2_int max_two min_two

theorem opens3 : Opens Try.prog 3 (Ty.int .i64) := opens_int Try.underlying3 (by kernel_rfl)
theorem opens46 : Opens Try.prog 46 rgK := opens_struct Try.underlying46 (by kernel_rfl) (opensF_cons rfl rfl opens3 (opensF_last rfl rfl opens3)) (fun r : Rg => (r.lo, r.hi)) (fun p => ⟨p.1, p.2⟩) (fun _ => rfl)
theorem opens22 : Opens Try.prog 22 (Ty.slice rgK) := opens_slice Try.underlying22 (by kernel_rfl) opens46 (by decide)
theorem opens24 : Opens Try.prog 24 (Ty.slice rgK) := opens_slice Try.underlying24 (by kernel_rfl) opens46 (by decide)
/-- A literal of ranges. -/
theorem at_lit (w : World) (xs : List Rg) (hw : ∀ x ∈ xs, x.wf) (n : Nat) (hn : n = xs.length) (hm : n ≤ 1000) (e : TypeId) :
    Ty.At rgK (w.alloc (.cells (rgc xs).toArray e)) (fun k => w.heap.size ≤ k) (some ⟨w.heap.size, 0, none⟩) n n xs := by
  refine ⟨hn, Nat.le_refl _, by simp [maxLen]; omega, by simp, rgc xs, ?_, rgc_row hw⟩
  have := new_sees w (rgc xs).toArray e
  exact this.mono (fun k hk => by show w.heap.size ≤ k; rw [show k = w.heap.size from hk]; exact Nat.le_refl _)

set_option maxHeartbeats 4000000 in
set_option maxRecDepth 100000 in
theorem anchor_any (w : World) : Calls Try.prog 10 #[] w fun e w' => e = .returned (.bool true) ∧ Chg (fun _ => False) w w' := by
  obtain ⟨W1, hW1⟩ : ∃ W1, W1 = w.alloc (.cells #[.int .i64 5, .int .i64 9, .int .i64 1, .int .i64 2, .int .i64 3, .int .i64 3] 46) := ⟨_, rfl⟩
  have C1 := hid (show Chg (fun _ => False) w W1 by rw [hW1]; exact chg_box _ _)
  have A1 := hid (show Ty.At rgK W1 (fun k => w.heap.size ≤ k) (some ⟨w.heap.size, 0, none⟩) 3 3 [⟨5, 9⟩, ⟨1, 2⟩, ⟨3, 3⟩] by
    rw [hW1]
    exact at_lit w [⟨5, 9⟩, ⟨1, 2⟩, ⟨3, 3⟩] (by intro x hx; simp at hx; rcases hx with rfl | rfl | rfl <;> exact ⟨by decide, by decide⟩) 3 rfl (by omega) 46)
  go_enter Try.func10, Try.ntmps10
  go_wp2_with fail
  rw [← hW1]
  clear hW1
  refine (make_ok A1.out (by omega) (by intro x hx; simp at hx; rcases hx with rfl | rfl | rfl <;> rfl)).mono ?_
  rintro e w2 ⟨v, q, rfl, ⟨h1, h2, _⟩, h3, h4⟩
  have hq : q = [⟨1, 3⟩, ⟨5, 9⟩] := ext h1 (by decide) (fun u => by rw [h2 u, Bool.eq_iff_iff]; simp [has, Rg.has]; omega)
  subst hq
  obtain ⟨A2, c2, m2, rfl, hm2, h6⟩ := own_form_len h3
  obtain rfl : m2 = 2 := hm2
  have C2 := hid (C1.out.trans h4 (fun _ h _ => h))
  have A2' := hid h6
  clear h1 h2 h3 h4 h6
  go_wp2_with fail
  refine (Not_ok A2'.out (by omega) (by decide)).mono ?_
  rintro e w3 ⟨v, q, rfl, hq, h3, h4⟩
  have hq2 : q = [⟨0, 0⟩, ⟨4, 4⟩, ⟨10, 1114367⟩] := by rw [hq]; rfl
  subst hq2
  obtain ⟨A3, c3, rfl⟩ := h3.form
  change Vec rgK 46 w3 _ _ (.slice A3 3 c3) _ at h3
  obtain ⟨g, cs, hA3, hgS, hgl, hK, hcl⟩ := h3.get (i := 2) (x := ⟨10, 1114367⟩) (by decide) rfl
  obtain ⟨rfl, _⟩ := rg_open hK
  subst hA3
  have y0 : w3.cell? ⟨g, 4, none⟩ = some (.int .i64 10) := hcl 0 _ rfl
  have y1 : w3.cell? ⟨g, 5, none⟩ = some (.int .i64 1114367) := hcl 1 _ rfl
  have C3 := hid (C2.out.trans h4 (fun _ h _ => h))
  have A3' := hid (A2'.out.chg h4 (fun _ _ h => h))
  clear hq h3 h4 hK hcl hgS
  go_wp2_with fail
  obtain ⟨W4, hW4⟩ : ∃ W4, W4 = w3.alloc (.cells #[.int .i64 1, .int .i64 3, .int .i64 5, .int .i64 9] 46) := ⟨_, rfl⟩
  have C4 := hid (show Chg (fun _ => False) w3 W4 by rw [hW4]; exact chg_box _ _)
  have A4 := hid (show Ty.At rgK W4 (fun k => w3.heap.size ≤ k) (some ⟨w3.heap.size, 0, none⟩) 2 2 [⟨1, 3⟩, ⟨5, 9⟩] by
    rw [hW4]
    exact at_lit w3 [⟨1, 3⟩, ⟨5, 9⟩] (by intro x hx; simp at hx; rcases hx with rfl | rfl <;> exact ⟨by decide, by decide⟩) 2 rfl (by omega) 46)
  rw [← hW4]
  clear hW4
  refine (same_any (A3'.out.chg C4.out (fun _ _ h => h)) A4.out (by omega) (by omega)).mono ?_
  rintro e w5 ⟨rfl, h5⟩
  rw [decide_eq_true rfl]
  have z0 := h5.cell (C4.out.cell y0 (fun h => h)) (fun h => h)
  have z1 := h5.cell (C4.out.cell y1 (fun h => h)) (fun h => h)
  have C5 := hid ((C3.out.trans C4.out (fun _ h _ => h)).trans h5 (fun _ h _ => h))
  clear h5 y0 y1
  go_wp2_with fail
  refine (twin_any 113 _ (by decide)).mono ?_
  rintro e w6 ⟨rfl, rfl⟩
  rw [show twin 113 = 81 from by decide]
  go_wp2_with fail
  go_ret
  exact ⟨rfl, C5.out⟩
end Go.Proofs.Ytoojifcpjbakgaa.Cl
