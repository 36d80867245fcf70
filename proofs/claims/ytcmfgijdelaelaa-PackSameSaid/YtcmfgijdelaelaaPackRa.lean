
/- The contracts of number, within and a rule's Right, the program's and the document's. -/

import Derived.Test.YtcmfgijdelaelaaPackG

namespace Go.Proofs.Ytcmfgijdelaelaa.Pa

set_option linter.unusedVariables false

set_option linter.unusedSimpArgs false

open Go.RowKit Go.Proofs.Ytcmfgijdelaelaa.C

attribute [local go_sem] max2_int min2_int max_two min_two

/-- Is a number right, from a least one on? -/
def numR (lo n : Int) : Bool := decide (lo ≤ n ∧ n ≤ 1099511627776)
def inR (lo hi n : Int) : Bool := decide (lo ≤ n ∧ n ≤ hi)
def ruleR (r : Rule) : Bool := decide (1 ≤ r.id ∧ r.id ≤ 1099511627776 ∧ 0 ≤ r.pri ∧ r.pri ≤ 1000 ∧ 0 ≤ r.act ∧ r.act ≤ 255 ∧ 1 ≤ r.scope ∧ r.scope ≤ 65535 ∧ (r.pat.size : Int) ≤ 256)
theorem ruleR_ok {r : Rule} (h : ruleR r = true) : RuleOk r := by
  have h1 := of_decide_eq_true h
  refine ⟨?_, by omega⟩
  intro u hu
  simp [Rule.nums] at hu
  unfold NumOk
  omega

theorem number_any (n lo : Int) (w : World) : Calls Try.prog 35 #[.int .i64 n, .int .i64 lo] w fun e w' => e = .returned (.bool (numR lo n)) ∧ w = w' := by
  unfold numR
  by_cases h1 : lo ≤ n
  case neg =>
    rw [decide_eq_false (by omega)]
    go_enter Try.func35, Try.ntmps35
    go_wp2_with fail
    go_ret
    exact ⟨rfl, rfl⟩
  by_cases h2 : n ≤ 1099511627776
  case neg =>
    rw [decide_eq_false (by omega)]
    go_enter Try.func35, Try.ntmps35
    go_wp2_with fail
    go_ret
    exact ⟨rfl, rfl⟩
  rw [decide_eq_true (by omega)]
  go_enter Try.func35, Try.ntmps35
  go_wp2_with fail
  go_ret
  exact ⟨rfl, rfl⟩
theorem within_any (n lo hi : Int) (w : World) : Calls Try.prog 37 #[.int .i64 n, .int .i64 lo, .int .i64 hi] w fun e w' => e = .returned (.bool (inR lo hi n)) ∧ w = w' := by
  unfold inR
  by_cases h1 : lo ≤ n
  case neg =>
    rw [decide_eq_false (by omega)]
    go_enter Try.func37, Try.ntmps37
    go_wp2_with fail
    go_ret
    exact ⟨rfl, rfl⟩
  by_cases h2 : n ≤ hi
  case neg =>
    rw [decide_eq_false (by omega)]
    go_enter Try.func37, Try.ntmps37
    go_wp2_with fail
    go_ret
    exact ⟨rfl, rfl⟩
  rw [decide_eq_true (by omega)]
  go_enter Try.func37, Try.ntmps37
  go_wp2_with fail
  go_ret
  exact ⟨rfl, rfl⟩

set_option maxHeartbeats 4000000 in
set_option maxRecDepth 100000 in
theorem ruleright_any (r : Rule) (w : World) : Calls Try.prog 51 #[.agg (ruleCells r).toArray] w fun e w' => e = .returned (.bool (ruleR r)) ∧ Chg (fun _ => False) w w' := by
  unfold ruleR
  by_cases h1 : 1 ≤ r.id
  case neg =>
    rw [decide_eq_false (by omega)]
    show Calls Try.prog _ #[.agg #[.int .i64 r.id, .int .i64 r.pri, .int .i64 r.act, .int .i64 r.scope, .string r.pat]] w _
    go_enter Try.func51, Try.ntmps51
    go_wp2_with fail
    go_ret
    exact ⟨rfl, (Chg.refl _ w).alloc _⟩
  by_cases h2 : r.id ≤ 1099511627776
  case neg =>
    rw [decide_eq_false (by omega)]
    show Calls Try.prog _ #[.agg #[.int .i64 r.id, .int .i64 r.pri, .int .i64 r.act, .int .i64 r.scope, .string r.pat]] w _
    go_enter Try.func51, Try.ntmps51
    go_wp2_with fail
    go_ret
    exact ⟨rfl, (Chg.refl _ w).alloc _⟩
  by_cases h3 : 0 ≤ r.pri
  case neg =>
    rw [decide_eq_false (by omega)]
    show Calls Try.prog _ #[.agg #[.int .i64 r.id, .int .i64 r.pri, .int .i64 r.act, .int .i64 r.scope, .string r.pat]] w _
    go_enter Try.func51, Try.ntmps51
    go_wp2_with fail
    go_ret
    exact ⟨rfl, (Chg.refl _ w).alloc _⟩
  by_cases h4 : r.pri ≤ 1000
  case neg =>
    rw [decide_eq_false (by omega)]
    show Calls Try.prog _ #[.agg #[.int .i64 r.id, .int .i64 r.pri, .int .i64 r.act, .int .i64 r.scope, .string r.pat]] w _
    go_enter Try.func51, Try.ntmps51
    go_wp2_with fail
    go_ret
    exact ⟨rfl, (Chg.refl _ w).alloc _⟩
  by_cases h5 : 0 ≤ r.act
  case neg =>
    rw [decide_eq_false (by omega)]
    show Calls Try.prog _ #[.agg #[.int .i64 r.id, .int .i64 r.pri, .int .i64 r.act, .int .i64 r.scope, .string r.pat]] w _
    go_enter Try.func51, Try.ntmps51
    go_wp2_with fail
    go_ret
    exact ⟨rfl, (Chg.refl _ w).alloc _⟩
  by_cases h6 : r.act ≤ 255
  case neg =>
    rw [decide_eq_false (by omega)]
    show Calls Try.prog _ #[.agg #[.int .i64 r.id, .int .i64 r.pri, .int .i64 r.act, .int .i64 r.scope, .string r.pat]] w _
    go_enter Try.func51, Try.ntmps51
    go_wp2_with fail
    go_ret
    exact ⟨rfl, (Chg.refl _ w).alloc _⟩
  by_cases h7 : 1 ≤ r.scope
  case neg =>
    rw [decide_eq_false (by omega)]
    show Calls Try.prog _ #[.agg #[.int .i64 r.id, .int .i64 r.pri, .int .i64 r.act, .int .i64 r.scope, .string r.pat]] w _
    go_enter Try.func51, Try.ntmps51
    go_wp2_with fail
    go_ret
    exact ⟨rfl, (Chg.refl _ w).alloc _⟩
  by_cases h8 : r.scope ≤ 65535
  case neg =>
    rw [decide_eq_false (by omega)]
    show Calls Try.prog _ #[.agg #[.int .i64 r.id, .int .i64 r.pri, .int .i64 r.act, .int .i64 r.scope, .string r.pat]] w _
    go_enter Try.func51, Try.ntmps51
    go_wp2_with fail
    go_ret
    exact ⟨rfl, (Chg.refl _ w).alloc _⟩
  by_cases h9 : (r.pat.size : Int) ≤ 256
  case neg =>
    rw [decide_eq_false (by omega)]
    show Calls Try.prog _ #[.agg #[.int .i64 r.id, .int .i64 r.pri, .int .i64 r.act, .int .i64 r.scope, .string r.pat]] w _
    go_enter Try.func51, Try.ntmps51
    go_wp2_with fail
    go_ret
    exact ⟨rfl, (Chg.refl _ w).alloc _⟩
  rw [decide_eq_true (by omega)]
  show Calls Try.prog _ #[.agg #[.int .i64 r.id, .int .i64 r.pri, .int .i64 r.act, .int .i64 r.scope, .string r.pat]] w _
  go_enter Try.func51, Try.ntmps51
  go_wp2_with fail
  go_ret
  exact ⟨rfl, (Chg.refl _ w).alloc _⟩

set_option maxHeartbeats 4000000 in
set_option maxRecDepth 100000 in
theorem refruleright_any (r : Rule) (w : World) : Calls Try.prog 54 #[.agg (ruleCells r).toArray] w fun e w' => e = .returned (.bool (ruleR r)) ∧ Chg (fun _ => False) w w' := by
  unfold ruleR
  by_cases h1 : 1 ≤ r.id
  case neg =>
    rw [decide_eq_false (by omega)]
    show Calls Try.prog _ #[.agg #[.int .i64 r.id, .int .i64 r.pri, .int .i64 r.act, .int .i64 r.scope, .string r.pat]] w _
    go_enter Try.func54, Try.ntmps54
    go_wp2_with fail
    go_ret
    exact ⟨rfl, (Chg.refl _ w).alloc _⟩
  by_cases h2 : r.id ≤ 1099511627776
  case neg =>
    rw [decide_eq_false (by omega)]
    show Calls Try.prog _ #[.agg #[.int .i64 r.id, .int .i64 r.pri, .int .i64 r.act, .int .i64 r.scope, .string r.pat]] w _
    go_enter Try.func54, Try.ntmps54
    go_wp2_with fail
    go_ret
    exact ⟨rfl, (Chg.refl _ w).alloc _⟩
  by_cases h3 : 0 ≤ r.pri
  case neg =>
    rw [decide_eq_false (by omega)]
    show Calls Try.prog _ #[.agg #[.int .i64 r.id, .int .i64 r.pri, .int .i64 r.act, .int .i64 r.scope, .string r.pat]] w _
    go_enter Try.func54, Try.ntmps54
    go_wp2_with fail
    go_ret
    exact ⟨rfl, (Chg.refl _ w).alloc _⟩
  by_cases h4 : r.pri ≤ 1000
  case neg =>
    rw [decide_eq_false (by omega)]
    show Calls Try.prog _ #[.agg #[.int .i64 r.id, .int .i64 r.pri, .int .i64 r.act, .int .i64 r.scope, .string r.pat]] w _
    go_enter Try.func54, Try.ntmps54
    go_wp2_with fail
    go_ret
    exact ⟨rfl, (Chg.refl _ w).alloc _⟩
  by_cases h5 : 0 ≤ r.act
  case neg =>
    rw [decide_eq_false (by omega)]
    show Calls Try.prog _ #[.agg #[.int .i64 r.id, .int .i64 r.pri, .int .i64 r.act, .int .i64 r.scope, .string r.pat]] w _
    go_enter Try.func54, Try.ntmps54
    go_wp2_with fail
    go_ret
    exact ⟨rfl, (Chg.refl _ w).alloc _⟩
  by_cases h6 : r.act ≤ 255
  case neg =>
    rw [decide_eq_false (by omega)]
    show Calls Try.prog _ #[.agg #[.int .i64 r.id, .int .i64 r.pri, .int .i64 r.act, .int .i64 r.scope, .string r.pat]] w _
    go_enter Try.func54, Try.ntmps54
    go_wp2_with fail
    go_ret
    exact ⟨rfl, (Chg.refl _ w).alloc _⟩
  by_cases h7 : 1 ≤ r.scope
  case neg =>
    rw [decide_eq_false (by omega)]
    show Calls Try.prog _ #[.agg #[.int .i64 r.id, .int .i64 r.pri, .int .i64 r.act, .int .i64 r.scope, .string r.pat]] w _
    go_enter Try.func54, Try.ntmps54
    go_wp2_with fail
    go_ret
    exact ⟨rfl, (Chg.refl _ w).alloc _⟩
  by_cases h8 : r.scope ≤ 65535
  case neg =>
    rw [decide_eq_false (by omega)]
    show Calls Try.prog _ #[.agg #[.int .i64 r.id, .int .i64 r.pri, .int .i64 r.act, .int .i64 r.scope, .string r.pat]] w _
    go_enter Try.func54, Try.ntmps54
    go_wp2_with fail
    go_ret
    exact ⟨rfl, (Chg.refl _ w).alloc _⟩
  by_cases h9 : (r.pat.size : Int) ≤ 256
  case neg =>
    rw [decide_eq_false (by omega)]
    show Calls Try.prog _ #[.agg #[.int .i64 r.id, .int .i64 r.pri, .int .i64 r.act, .int .i64 r.scope, .string r.pat]] w _
    go_enter Try.func54, Try.ntmps54
    go_wp2_with fail
    go_ret
    exact ⟨rfl, (Chg.refl _ w).alloc _⟩
  rw [decide_eq_true (by omega)]
  show Calls Try.prog _ #[.agg #[.int .i64 r.id, .int .i64 r.pri, .int .i64 r.act, .int .i64 r.scope, .string r.pat]] w _
  go_enter Try.func54, Try.ntmps54
  go_wp2_with fail
  go_ret
  exact ⟨rfl, (Chg.refl _ w).alloc _⟩
end Go.Proofs.Ytcmfgijdelaelaa.Pa
