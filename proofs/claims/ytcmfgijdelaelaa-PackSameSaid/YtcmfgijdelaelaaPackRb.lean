
/- The contracts of slices.ContainsFunc at rules and numbers. -/

import Derived.Test.YtcmfgijdelaelaaPackRa

import Derived.Shelf.Abstract

namespace Go.Proofs.Ytcmfgijdelaelaa.Pa

set_option linter.unusedVariables false

set_option linter.unusedSimpArgs false

open Go.RowKit Go.Proofs.Ytcmfgijdelaelaa.C

attribute [local go_sem] max2_int min2_int max_two min_two

theorem ruleq_clo (r : Rule) (w : World)  : Calls Try.prog 50 #[.agg (ruleCells r).toArray] w fun e w' => e = .returned (.bool (!(ruleR r))) ∧ Chg (fun _ => False) w w' := by
  show Calls Try.prog _ #[.agg #[.int .i64 r.id, .int .i64 r.pri, .int .i64 r.act, .int .i64 r.scope, .string r.pat]] w _
  go_enter Try.func50, Try.ntmps50
  go_wp2_with fail
  refine (ruleright_any r _).mono ?_
  rintro e w1 ⟨rfl, h1⟩
  have H1 := hid (((Chg.refl (fun _ => False) w).alloc _).trans h1 (fun _ h _ => h))
  clear h1
  go_wp2_with fail
  go_ret
  exact ⟨rfl, H1.out⟩
/-- slices.IndexFunc: is there one that isn't right? -/
def RuleqIdx (xs : List (Rule)) (w : World) (e : Ending) (w' : World) : Prop := (∃ i : Int, e = .returned (.int .i64 i) ∧ decide (0 ≤ i) = !(xs.all (fun r => ruleR r))) ∧ Chg (fun _ => False) w w'
theorem ruleq_allk {xs : List (Rule)} {k : Nat} {r : Rule} (h : xs[k]? = some r) : (xs.take (k + 1)).all (fun r => ruleR r) = ((xs.take k).all (fun r => ruleR r) && ruleR r) := by
  rw [List.take_add_one, h, Option.toList_some, List.all_append]
  simp
theorem ruleq_alln {xs : List (Rule)} {k : Nat} (h : (xs.take k).all (fun r => ruleR r) = false) : xs.all (fun r => ruleR r) = false := by
  rw [← List.take_append_drop k xs, List.all_append, h]
  rfl
set_option maxHeartbeats 4000000 in
set_option maxRecDepth 100000 in
theorem ruleq_idx {R : Nat → Prop} {A : Option Addr} {n c : Nat} {xs : List (Rule)} {w : World} (hl : Ty.At ruleK w R A n c xs) :
    Calls Try.prog 65 #[.slice A n c, .func (.func 50) #[] #[]] w (RuleqIdx xs w) := by
  have HL := hid hl
  have hn2 : (n : Int) ≤ 9223372036854775807 := by have q1 := hl.2.1; have q2 := hl.2.2.1; simp [maxLen] at q2; omega
  have eg : ∀ args w, (callFunc 50 args).run Try.prog w = .ok (.enter 50 args) w := Go.Proofs.enters_of Try.func50 (by kernel_rfl) rfl
  clear hl
  go_enter Try.func65, Try.ntmps65
  go_wp2_with fail
  go_loopw [8] (fun i wr => ∃ k : Nat, k ≤ n ∧ i = .int .i64 k ∧ (xs.take k).all (fun r => ruleR r) = true ∧ Chg (fun _ => False) w wr) (fun i _ => n - (intOf i).toNat)
  case atStart => exact ⟨0, Nat.zero_le _, rfl, rfl, Chg.refl _ _⟩
  case round =>
    obtain ⟨k, hk, rfl, hp, hC⟩ := hrel
    have HP := hid hp
    have HC := hid hC
    clear hp
    by_cases hlt : k < n
    · obtain ⟨r, hr⟩ : ∃ r, xs[k]? = some r := ⟨_, List.getElem?_eq_getElem (by have := HL.out.1; omega)⟩
      obtain ⟨a, cs, ha, haR, hK, hcs⟩ := HL.out.get (by decide) hr
      obtain ⟨rfl, hrw⟩ := rule_open hK
      clear hrw
      subst ha
      have hcs2 : ∀ j u, (ruleCells r)[j]? = some u → wr.cell? (a.add (k * 5 + j)) = some u := fun j u hj => hC.cell (hcs j u hj) (fun h => h)
      have x0 := elem_cell0 hcs2 _ rfl
      have x1 := elem_cell hcs2 0 _ rfl
      have x2 := elem_cell hcs2 1 _ rfl
      have x3 := elem_cell hcs2 2 _ rfl
      have x4 := elem_cell hcs2 3 _ rfl
      have HN := hid (ruleq_allk hr)
      have HX := hid (ruleq_alln (xs := xs) (k := k + 1))
      clear hcs hK hcs2 hr haR hC
      have hlt2 : (k : Int) < (n : Int) := by omega
      go_wp2_with fail
      refine (ruleq_clo r _).mono ?_
      rintro e w2 ⟨rfl, h2⟩
      have HC2 := hid (HC.out.trans h2 (fun _ h _ => h))
      clear h2 x0 x1 x2 x3 x4
      cases hrr : ruleR r
      · have HF := hid (HX.out (by rw [HN.out, hrr, Bool.and_false]))
        clear hrr
        go_wp2_with fail
        go_ret
        exact ⟨⟨(k : Int), rfl, by rw [HF.out]; simp⟩, HC2.out⟩
      · have HF := hid (show (xs.take (k + 1)).all (fun r => ruleR r) = true by rw [HN.out, HP.out, hrr]; rfl)
        clear hrr
        go_wp2_with fail
        go_roundw
        case measure => simp [intOf]; omega
        case rel => first | exact ⟨k + 1, hlt, by go_num, HF.out, HC2.out⟩ | ((repeat apply Exists.intro); exact ⟨⟨k + 1, hlt, by go_num, HF.out, HC2.out⟩, rfl⟩)
    · clear eg hC
      have hkn : ¬ (k : Int) < (n : Int) := by omega
      go_wp2_with fail
      go_ret
      have hp := HP.out
      rw [List.take_of_length_le (by have := HL.out.1; omega)] at hp
      exact ⟨⟨-1, rfl, by rw [hp]; rfl⟩, HC.out⟩
set_option maxHeartbeats 4000000 in
set_option maxRecDepth 100000 in
theorem ruleq_contains {R : Nat → Prop} {A : Option Addr} {n c : Nat} {xs : List (Rule)} {w : World} (hl : Ty.At ruleK w R A n c xs) :
    Calls Try.prog 49 #[.slice A n c, .func (.func 50) #[] #[]] w fun e w' => e = .returned (.bool (!(xs.all (fun r => ruleR r)))) ∧ Chg (fun _ => False) w w' := by
  have HL := hid hl
  clear hl
  go_enter Try.func49, Try.ntmps49
  go_wp2_with fail
  refine (ruleq_idx HL.out).mono ?_
  rintro e w1 ⟨⟨i, rfl, hi⟩, hc⟩
  have HI := hid hi
  have HC := hid hc
  clear hi hc
  go_wp2_with fail
  go_ret
  exact ⟨by rw [← HI.out]; rfl, HC.out⟩

theorem numq_clo (r : Int) (w : World)  : Calls Try.prog 53 #[.int .i64 r] w fun e w' => e = .returned (.bool (!(numR 1 r))) ∧ Chg (fun _ => False) w w' := by
  go_enter Try.func53, Try.ntmps53
  go_wp2_with fail
  refine (number_any r 1 _).mono ?_
  rintro e w1 ⟨rfl, rfl⟩
  go_wp2_with fail
  go_ret
  exact ⟨rfl, Chg.refl _ _⟩
/-- slices.IndexFunc: is there one that isn't right? -/
def NumqIdx (xs : List (Int)) (w : World) (e : Ending) (w' : World) : Prop := (∃ i : Int, e = .returned (.int .i64 i) ∧ decide (0 ≤ i) = !(xs.all (fun r => numR 1 r))) ∧ Chg (fun _ => False) w w'
theorem numq_allk {xs : List (Int)} {k : Nat} {r : Int} (h : xs[k]? = some r) : (xs.take (k + 1)).all (fun r => numR 1 r) = ((xs.take k).all (fun r => numR 1 r) && numR 1 r) := by
  rw [List.take_add_one, h, Option.toList_some, List.all_append]
  simp
theorem numq_alln {xs : List (Int)} {k : Nat} (h : (xs.take k).all (fun r => numR 1 r) = false) : xs.all (fun r => numR 1 r) = false := by
  rw [← List.take_append_drop k xs, List.all_append, h]
  rfl
set_option maxHeartbeats 4000000 in
set_option maxRecDepth 100000 in
theorem numq_idx {R : Nat → Prop} {A : Option Addr} {n c : Nat} {xs : List (Int)} {w : World} (hl : Ty.At (Ty.int .i64) w R A n c xs) :
    Calls Try.prog 66 #[.slice A n c, .func (.func 53) #[] #[]] w (NumqIdx xs w) := by
  have HL := hid hl
  have hn2 : (n : Int) ≤ 9223372036854775807 := by have q1 := hl.2.1; have q2 := hl.2.2.1; simp [maxLen] at q2; omega
  have eg : ∀ args w, (callFunc 53 args).run Try.prog w = .ok (.enter 53 args) w := Go.Proofs.enters_of Try.func53 (by kernel_rfl) rfl
  clear hl
  go_enter Try.func66, Try.ntmps66
  go_wp2_with fail
  go_loopw [8] (fun i wr => ∃ k : Nat, k ≤ n ∧ i = .int .i64 k ∧ (xs.take k).all (fun r => numR 1 r) = true ∧ Chg (fun _ => False) w wr) (fun i _ => n - (intOf i).toNat)
  case atStart => exact ⟨0, Nat.zero_le _, rfl, rfl, Chg.refl _ _⟩
  case round =>
    obtain ⟨k, hk, rfl, hp, hC⟩ := hrel
    have HP := hid hp
    have HC := hid hC
    clear hp
    by_cases hlt : k < n
    · obtain ⟨r, hr⟩ : ∃ r, xs[k]? = some r := ⟨_, List.getElem?_eq_getElem (by have := HL.out.1; omega)⟩
      obtain ⟨a, cs, ha, haR, hK, hcs⟩ := HL.out.get (by decide) hr
      obtain ⟨rfl, hrw⟩ := (id hK)
      clear hrw
      subst ha
      have hcs2 : ∀ j u, ([Value.int .i64 r])[j]? = some u → wr.cell? (a.add (k * 1 + j)) = some u := fun j u hj => hC.cell (hcs j u hj) (fun h => h)
      have x0 := elem_cell0 hcs2 _ rfl
      rw [Nat.mul_one] at x0
      have HN := hid (numq_allk hr)
      have HX := hid (numq_alln (xs := xs) (k := k + 1))
      clear hcs hK hcs2 hr haR hC
      have hlt2 : (k : Int) < (n : Int) := by omega
      go_wp2_with fail
      refine (numq_clo r _).mono ?_
      rintro e w2 ⟨rfl, h2⟩
      have HC2 := hid (HC.out.trans h2 (fun _ h _ => h))
      clear h2 x0
      cases hrr : numR 1 r
      · have HF := hid (HX.out (by rw [HN.out, hrr, Bool.and_false]))
        clear hrr
        go_wp2_with fail
        go_ret
        exact ⟨⟨(k : Int), rfl, by rw [HF.out]; simp⟩, HC2.out⟩
      · have HF := hid (show (xs.take (k + 1)).all (fun r => numR 1 r) = true by rw [HN.out, HP.out, hrr]; rfl)
        clear hrr
        go_wp2_with fail
        go_roundw
        case measure => simp [intOf]; omega
        case rel => first | exact ⟨k + 1, hlt, by go_num, HF.out, HC2.out⟩ | ((repeat apply Exists.intro); exact ⟨⟨k + 1, hlt, by go_num, HF.out, HC2.out⟩, rfl⟩)
    · clear eg hC
      have hkn : ¬ (k : Int) < (n : Int) := by omega
      go_wp2_with fail
      go_ret
      have hp := HP.out
      rw [List.take_of_length_le (by have := HL.out.1; omega)] at hp
      exact ⟨⟨-1, rfl, by rw [hp]; rfl⟩, HC.out⟩
set_option maxHeartbeats 4000000 in
set_option maxRecDepth 100000 in
theorem numq_contains {R : Nat → Prop} {A : Option Addr} {n c : Nat} {xs : List (Int)} {w : World} (hl : Ty.At (Ty.int .i64) w R A n c xs) :
    Calls Try.prog 52 #[.slice A n c, .func (.func 53) #[] #[]] w fun e w' => e = .returned (.bool (!(xs.all (fun r => numR 1 r)))) ∧ Chg (fun _ => False) w w' := by
  have HL := hid hl
  clear hl
  go_enter Try.func52, Try.ntmps52
  go_wp2_with fail
  refine (numq_idx HL.out).mono ?_
  rintro e w1 ⟨⟨i, rfl, hi⟩, hc⟩
  have HI := hid hi
  have HC := hid hc
  clear hi hc
  go_wp2_with fail
  go_ret
  exact ⟨by rw [← HI.out]; rfl, HC.out⟩
end Go.Proofs.Ytcmfgijdelaelaa.Pa
