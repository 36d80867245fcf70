/- The contracts of not, Not, slices.Clone, slices.Concat, Or, And. -/
import Derived.Test.YtoojifcpjbakgaaClassD
import Derived.Test.YtoojifcpjbakgaaClassGr
namespace Go.Proofs.Ytoojifcpjbakgaa.Cl
set_option linter.unusedVariables false
set_option linter.unusedSimpArgs false
open Go.RowKit Go.Proofs.Ytoojifcpjbakgaa.C Go.Shelf
attribute [local go_sem] max2_int min2_int max_two min_two

theorem notFrom_len : ∀ (l : List Rg) (a : Int), (notFrom a l).length ≤ l.length + 1
  | [], a => by unfold notFrom; split <;> simp
  | r :: l, a => by
    have := notFrom_len l (r.hi + 1)
    unfold notFrom
    split <;> simp <;> omega

set_option maxHeartbeats 4000000 in
theorem not_any {S : Nat → Prop} {xs : List Rg} {w : World} {A : Option Addr} {n c : Nat} (hv : Ty.At rgK w S A n c xs) (hok : n ≤ 100000) (hr : ∀ x ∈ xs, x.right = true) :
    Calls Try.prog 33 #[.slice A n c] w (OwnSet w fun q => q = not_ xs) := by
  have HV := hid hv
  have HL := hid hv.1
  have HR := hid hr
  have hn : (n : Int) ≤ 100000 := by omega
  clear hv hr
  go_enter Try.func33, Try.ntmps33
  go_wp2_with fail
  go_loopw [3, 4, 9] (fun o l i wr => ∃ (k : Nat) (a : Int) (done : List Rg), k ≤ n ∧ i = .int .i64 k ∧ l = .int .i64 a ∧ 0 ≤ a ∧ a ≤ 1114368 ∧ done ++ notFrom a (xs.drop k) = not_ xs ∧ done.length ≤ k ∧ Vec rgK 46 wr (fun k => w.heap.size ≤ k) (fun _ => False) o done ∧ Chg (fun _ => False) w wr) (fun _ _ i _ => n - (intOf i).toNat)
  case atStart => exact ⟨0, 0, [], Nat.zero_le _, rfl, rfl, by omega, by omega, rfl, Nat.zero_le _, Vec.nil _ _ _ _ _, Chg.refl _ _⟩
  case round =>
    obtain ⟨k, a, done, hk, rfl, rfl, ha0, ha1, he, hdl, hV, hC⟩ := hrel
    obtain ⟨A2, c2, rfl⟩ := hV.form
    obtain ⟨m, hm⟩ : ∃ m, m = done.length := ⟨_, rfl⟩
    rw [← hm] at hV hdl ⊢
    have HM := hid hm
    have HV2 := hid hV
    have HC := hid hC
    have HE := hid he
    have hmb : (m : Int) ≤ 100000 := by omega
    clear hm hV he
    by_cases hlt : k < n
    · have hkl : k < xs.length := by rw [← HL.out]; exact hlt
      obtain ⟨b, rfl, hb, hwf, x0, x1⟩ := rg_at (HV.out.chg hC (fun _ _ h => h)) (List.getElem?_eq_getElem hkl)
      have hr := right_iff.1 (HR.out _ (List.getElem_mem hkl))
      have HD := hid (show xs.drop k = xs[k] :: xs.drop (k + 1) from List.drop_eq_getElem_cons hkl)
      generalize xs[k] = x at x0 x1 hwf hr HD
      obtain ⟨lo, hi⟩ := x
      simp only at x0 x1 hr
      have hr1 := hr.1
      have hr2 := hr.2.1
      have hr3 := hr.2.2
      have CA := hid (chg_box wr (.cells #[.int .i64 lo, .int .i64 hi] 46))
      clear hr hwf hb hC hkl
      by_cases hgap : a < lo
      · have C3 := hid (show Chg (fun _ => False) wr ((wr.alloc (.cells #[.int .i64 lo, .int .i64 hi] 46)).alloc (.cells #[.int .i64 a, .int .i64 (lo - 1)] 46)) from CA.out.alloc _)
        have SEE := hid (show Sees ((wr.alloc (.cells #[.int .i64 lo, .int .i64 hi] 46)).alloc (.cells #[.int .i64 a, .int .i64 (lo - 1)] 46)) (fun k => k = wr.heap.size + 1) (some ⟨wr.heap.size + 1, 0, none⟩) [.int .i64 a, .int .i64 (lo - 1)] by
          have q := new_sees (wr.alloc (.cells #[.int .i64 lo, .int .i64 hi] 46)) #[.int .i64 a, .int .i64 (lo - 1)] 46
          have e : (wr.alloc (.cells #[.int .i64 lo, .int .i64 hi] 46)).heap.size = wr.heap.size + 1 := by simp
          rw [e] at q
          exact q)
        have BX := hid (show ((wr.alloc (.cells #[.int .i64 lo, .int .i64 hi] 46)).alloc (.cells #[.int .i64 a, .int .i64 (lo - 1)] 46)).cell? ⟨wr.heap.size, 1, none⟩ = some (.int .i64 hi) from (chg_box _ _).cell (box_hi (x := ⟨lo, hi⟩)) (fun h => h))
        have HWF := hid (show (⟨a, lo - 1⟩ : Rg).wf from ⟨int_wf (by show _ ≤ a; omega) (by show a ≤ _; omega), int_wf (by show _ ≤ lo - 1; omega) (by show lo - 1 ≤ _; omega)⟩)
        have HBY := hid (show (done.length + 1) * 16 ≤ 140737488355328 by rw [← HM.out]; omega)
        have HNE := hid (show ¬ (Value.slice A2 m c2).ownBlock = some wr.heap.size from fun e => Nat.lt_irrefl _ (HV2.out.lt _ e))
        go_wp2_with (first | (at_builtin; refine vec_list (d := rgK) _ rfl (.tmp 17) (.tmp 23) 24 46 (.agg #[.int .i64 0, .int .i64 0]) 16 rfl Try.underlying24 info46 rfl (by decide) (by decide) (.slice A2 m c2) rfl (HV2.out.chg C3.out (fun _ _ h => h) (fun _ _ _ _ h => h)) (some ⟨wr.heap.size + 1, 0, none⟩) 1 1 (ys := [⟨a, lo - 1⟩]) rfl (by simp) (by omega) rfl SEE.out (Ty.Row.one_ (rg_shut HWF.out)) HBY.out ?_; rw [← HM.out]; intro A3 c3 w3 h3 h4; have H3 := hid h3; have H4 := hid (show Chg (fun k => (Value.slice A2 m c2).ownBlock = some k) wr w3 from (C3.out.mono (fun _ h _ => h.elim)).trans h4 (fun _ h _ => h)); have y1 := h4.cell BX.out HNE.out; clear h3 h4))
        have HM2 := hid (HC.out.trans H4.out (fun i hi hlt => by have q1 := HV2.out.inS i hi; omega))
        have HN := hid (show Vec rgK 46 w3 (fun k => w.heap.size ≤ k) (fun _ => False) (.slice A3 (m + 1) c3) (done ++ [⟨a, lo - 1⟩]) from H3.out.mono (fun j hj _ => by
            rcases hj with hj | hj
            · exact hj
            · have q1 := HC.out.size; have q2 := C3.out.size; omega) (fun j hj _ => hj))
        have HE2 := hid (show (done ++ [⟨a, lo - 1⟩]) ++ notFrom (hi + 1) (xs.drop (k + 1)) = not_ xs by
          rw [← HE.out, HD.out, List.append_assoc]
          conv => rhs; unfold notFrom
          rw [if_pos hgap])
        have HLL := hid (show (done ++ [(⟨a, lo - 1⟩ : Rg)]).length ≤ k + 1 by rw [List.length_append, ← HM.out, List.length_singleton]; omega)
        go_wp2_with fail
        go_roundw
        case measure => simp [intOf]; omega
        case rel => first | exact ⟨k + 1, hi + 1, _, by omega, by go_num, by go_num, by omega, by omega, HE2.out, HLL.out, HN.out, HM2.out⟩ | ((repeat apply Exists.intro); exact ⟨⟨k + 1, hi + 1, _, by omega, by go_num, by go_num, by omega, by omega, HE2.out, HLL.out, HN.out, HM2.out⟩, rfl⟩)
      · have HE2 := hid (show done ++ notFrom (hi + 1) (xs.drop (k + 1)) = not_ xs by
          rw [← HE.out, HD.out]
          conv => rhs; unfold notFrom
          rw [if_neg hgap, List.nil_append])
        have HN := hid (HV2.out.chg CA.out (fun _ _ h => h) (fun _ _ _ _ h => h))
        have HM2 := hid (HC.out.trans CA.out (fun _ h _ => h))
        have HLL := hid (show done.length ≤ k + 1 by rw [← HM.out]; omega)
        go_wp2_with fail
        go_roundw
        case measure => simp [intOf]; omega
        case rel => first | exact ⟨k + 1, hi + 1, _, by omega, by go_num, by go_num, by omega, by omega, HE2.out, HLL.out, HN.out, HM2.out⟩ | ((repeat apply Exists.intro); exact ⟨⟨k + 1, hi + 1, _, by omega, by go_num, by go_num, by omega, by omega, HE2.out, HLL.out, HN.out, HM2.out⟩, rfl⟩)
    · obtain rfl : k = n := by omega
      have HD := hid (show done ++ notFrom a [] = not_ xs by rw [← HE.out, List.drop_eq_nil_of_le (by rw [← HL.out]; exact Nat.le_refl _)])
      clear hC
      by_cases hin : a ≤ 1114367
      · have C3 := hid (chg_box wr (.cells #[.int .i64 a, .int .i64 1114367] 46))
        go_wp2_with (first | (at_builtin; refine vec_list (d := rgK) _ rfl (.tmp 31) (.tmp 34) 24 46 (.agg #[.int .i64 0, .int .i64 0]) 16 rfl Try.underlying24 info46 rfl (by decide) (by decide) (.slice A2 m c2) rfl (HV2.out.chg C3.out (fun _ _ h => h) (fun _ _ _ _ h => h)) (some ⟨wr.heap.size, 0, none⟩) 1 1 (ys := [⟨a, 1114367⟩]) rfl (by simp) (by omega) rfl (new_sees wr #[.int .i64 a, .int .i64 1114367] 46) (Ty.Row.one_ (rg_shut ⟨int_wf (by show _ ≤ a; omega) (by show a ≤ _; omega), int_wf (by show _ ≤ (1114367 : Int); omega) (by show (1114367 : Int) ≤ _; omega)⟩)) (by rw [← HM.out]; omega) ?_; rw [← HM.out]; intro A3 c3 w3 h3 h4; have H3 := hid h3; have H4 := hid (show Chg (fun k => (Value.slice A2 m c2).ownBlock = some k) wr w3 from (C3.out.mono (fun _ h _ => h.elim)).trans h4 (fun _ h _ => h)); clear h3 h4))
        have HM2 := hid (HC.out.trans H4.out (fun i hi hlt => by have q1 := HV2.out.inS i hi; omega))
        have HN := hid (show Vec rgK 46 w3 (fun k => w.heap.size ≤ k) (fun _ => False) (.slice A3 (m + 1) c3) (not_ xs) from by
          rw [← HD.out]
          unfold notFrom
          rw [if_pos hin]
          exact H3.out.mono (fun j hj _ => by
            rcases hj with hj | hj
            · exact hj
            · have q1 := HC.out.size; have q2 := C3.out.size; omega) (fun j hj _ => hj))
        go_wp2_with fail
        go_ret
        exact ⟨_, _, rfl, rfl, HN.out, HM2.out⟩
      · have HN := hid (show Vec rgK 46 wr (fun k => w.heap.size ≤ k) (fun _ => False) (.slice A2 m c2) (not_ xs) from by
          rw [← HD.out]
          unfold notFrom
          rw [if_neg hin, List.append_nil]
          exact HV2.out)
        go_wp2_with fail
        go_ret
        exact ⟨_, _, rfl, rfl, HN.out, HC.out⟩

set_option maxHeartbeats 1000000 in
theorem Not_ok {S : Nat → Prop} {xs : List Rg} {w : World} {A : Option Addr} {n c : Nat} (hv : Ty.At rgK w S A n c xs) (hok : n ≤ 100000) (hn : nrm xs = true) :
    Calls Try.prog 20 #[.slice A n c] w (OwnSetE 0 w fun q => q = not_ xs) := by
  have HV := hid hv
  have HN := hid hn
  clear hv hn
  go_enter Try.func20, Try.ntmps20
  go_wp2_with fail
  refine (isnormal_any HV.out hok).mono ?_
  rintro e w2 ⟨rfl, h2⟩
  have H2 := hid h2
  clear h2
  rw [HN.out]
  go_wp2_with fail
  refine (not_any (HV.out.chg H2.out (fun _ _ h => h)) hok (nrm_right HN.out)).mono ?_
  rintro e w3 ⟨v, q, rfl, h3, h4, h5⟩
  have H3 := hid h3
  have H4 := hid (h4.mono (S' := fun k => w.heap.size ≤ k) (D' := fun _ => False) (fun k hk _ => Nat.le_trans H2.out.size hk) (fun _ h _ => h))
  have H5 := hid (H2.out.trans h5 (fun _ h _ => h))
  clear h3 h4 h5
  go_wp2_with fail
  refine bodyPost_ret (v := .tuple #[v, .int .i64 0]) (by simp [results, Try.results20, go_sem]) rfl ?_
  exact ⟨_, _, rfl, H3.out, H4.out, H5.out⟩
set_option maxHeartbeats 1000000 in
theorem Not_no {S : Nat → Prop} {xs : List Rg} {w : World} {A : Option Addr} {n c : Nat} (hv : Ty.At rgK w S A n c xs) (hok : n ≤ 100000) (hn : nrm xs = false) :
    Calls Try.prog 20 #[.slice A n c] w fun e w' => e = .returned (.tuple #[.slice none 0 0, .int .i64 10]) ∧ Chg (fun _ => False) w w' := by
  have HV := hid hv
  have HN := hid hn
  clear hv hn
  go_enter Try.func20, Try.ntmps20
  go_wp2_with fail
  refine (isnormal_any HV.out hok).mono ?_
  rintro e w2 ⟨rfl, h2⟩
  have H2 := hid h2
  clear h2
  rw [HN.out]
  go_wp2_with fail
  refine bodyPost_ret (v := .tuple #[.slice none 0 0, .int .i64 10]) (by simp [results, Try.results20, go_sem]) rfl ?_
  exact ⟨rfl, H2.out⟩

/-! ### slices.Grow, slices.Concat, slices.Clone -/
theorem zeroCells_size (z : Array Value) (n : Nat) : (Builtin.zeroCells z n).size = n * z.size := by simp [Builtin.zeroCells]
theorem grow_nil (n : Nat) (w : World) (hn : n ≤ 1000000) :
    Calls Try.prog 42 #[.slice none 0 0, .int .i64 n] w fun e w' => ∃ A c, e = .returned (.slice A 0 c) ∧ Vec rgK 46 w' (fun k => w.heap.size ≤ k) (fun _ => False) (.slice A 0 c) [] ∧ Chg (fun _ => False) w w' := by
  rcases Nat.eq_zero_or_pos n with h0 | h0
  · subst h0
    refine (show Calls Try.prog 42 #[.slice none 0 0, .int .i64 (0 : Nat)] w _ from Any8.slices_Grow_room growRg none 0 0 0 w (Nat.le_refl _) (by omega) (by omega) (Nat.le_refl _)).mono ?_
    rintro e w' ⟨rfl, rfl⟩
    exact ⟨none, 0, rfl, Vec.nil _ _ _ _ _, Chg.refl _ _⟩
  · obtain ⟨i0, hi, hz0, hz1, hz2⟩ := info_parts info46
    have hcap : grownCap w (0 + n) 0 46 ≤ maxLen := grownCap_le_maxLen w (0 + n) 0 46 (by simp [maxLen]; omega)
    have hge : 0 + n ≤ grownCap w (0 + n) 0 46 := grownCap_ge w (0 + n) 0 46
    refine (show Calls Try.prog 42 #[.slice none 0 0, .int .i64 n] w _ from Any8.slices_Grow_grow growRg i0 (.agg #[.int .i64 0, .int .i64 0]) hi hz0 (by rw [hz1]; decide) none 0 0 n [] w (Nat.le_refl _) (by omega) (by rw [hz2]; omega) (by omega) (by simp) (fun _ => rfl) (fun a h => by cases h)).mono ?_
    rintro e w' ⟨rfl, rfl⟩
    refine ⟨some ⟨w.heap.size, 0, none⟩, grownCap w (0 + n) 0 46, rfl, ?_, ((Chg.refl _ w).drew).alloc _⟩
    obtain ⟨cur, hcur⟩ : ∃ cur : Array Value, cur = (#[] ++ Builtin.zeroCells (Value.agg #[Value.int .i64 0, Value.int .i64 0]).cells (0 + n - 0) ++ Builtin.zeroCells (Value.agg #[Value.int .i64 0, Value.int .i64 0]).cells (grownCap w (0 + n) 0 46 - (0 + n))) := ⟨_, rfl⟩
    show Vec rgK 46 (w.drew.alloc (.cells (#[] ++ Builtin.zeroCells (Value.agg #[Value.int .i64 0, Value.int .i64 0]).cells (0 + n - 0) ++ Builtin.zeroCells (Value.agg #[Value.int .i64 0, Value.int .i64 0]).cells (grownCap w (0 + n) 0 46 - (0 + n))) 46)) _ _ _ _
    rw [← hcur]
    refine ⟨[], ⟨by simp, .inr ⟨w.heap.size, _, cur, rfl, Nat.zero_le _, blk_new w.drew _, Nat.zero_le _, hcap, ?_, ?_⟩⟩, fun k hk => ?_, Ty.Row.nil _ _ _⟩
    · rw [hcur]
      have hz : (Value.agg #[Value.int .i64 0, Value.int .i64 0]).cells.size = 2 := rfl
      rw [Array.size_append, Array.size_append, zeroCells_size, zeroCells_size, hz]
      rw [Nat.zero_add] at hge ⊢
      show 0 + (n - 0) * 2 + (grownCap w n 0 46 - n) * 2 = grownCap w n 0 46 * 2
      omega
    · simp
    · simp [Value.ownBlock] at hk
      show w.heap.size ≤ k
      omega
end Go.Proofs.Ytoojifcpjbakgaa.Cl
