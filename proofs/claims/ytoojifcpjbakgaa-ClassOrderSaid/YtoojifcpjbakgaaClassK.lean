/- How many numbers sets have: plain math. -/
import Derived.Test.YtoojifcpjbakgaaClassD
namespace Go.Proofs.Ytoojifcpjbakgaa.Cl
set_option linter.unusedVariables false
set_option linter.unusedSimpArgs false

def cf (f : Int → Bool) : Nat → Int
  | 0 => 0
  | n + 1 => cf f n + (if f (n : Int) then 1 else 0)
theorem cf_congr {f g : Int → Bool} : ∀ {n : Nat}, (∀ u : Nat, u < n → f u = g u) → cf f n = cf g n
  | 0, _ => rfl
  | n + 1, h => by
    have ih := cf_congr (f := f) (g := g) (n := n) (fun u hu => h u (by omega))
    unfold cf
    rw [ih, h n (by omega)]
theorem cf_or_and (f g : Int → Bool) : ∀ n : Nat, cf (fun u => f u || g u) n + cf (fun u => f u && g u) n = cf f n + cf g n
  | 0 => rfl
  | n + 1 => by
    have ih := cf_or_and f g n
    show cf _ n + (if (f n || g n) = true then 1 else 0) + (cf _ n + (if (f n && g n) = true then 1 else 0)) = cf f n + (if f n = true then 1 else 0) + (cf g n + (if g n = true then 1 else 0))
    rcases hf : f n with _ | _ <;> rcases hg : g n with _ | _ <;> simp <;> omega
theorem cf_none {f : Int → Bool} : ∀ {n : Nat}, (∀ u : Nat, u < n → f u = false) → cf f n = 0
  | 0, _ => rfl
  | n + 1, h => by
    have ih := cf_none (f := f) (n := n) (fun u hu => h u (by omega))
    simp only [cf, ih, h n (by omega)]
    rfl
theorem cf_all {f : Int → Bool} : ∀ {n : Nat}, (∀ u : Nat, u < n → f u = true) → cf f n = n
  | 0, _ => rfl
  | n + 1, h => by
    have ih := cf_all (f := f) (n := n) (fun u hu => h u (by omega))
    simp only [cf, ih, h n (by omega)]
    simp
theorem cf_range (lo hi : Int) (h0 : 0 ≤ lo) (h1 : lo ≤ hi) : ∀ n : Nat, cf (fun u => decide (lo ≤ u ∧ u ≤ hi)) n = if (n : Int) ≤ lo then 0 else if (n : Int) ≤ hi + 1 then n - lo else hi + 1 - lo
  | 0 => by simp [cf]; omega
  | n + 1 => by
    have ih := cf_range lo hi h0 h1 n
    simp only [cf, ih]
    by_cases hc : lo ≤ (n : Int) ∧ (n : Int) ≤ hi
    · rw [if_pos (show decide (lo ≤ (n : Int) ∧ (n : Int) ≤ hi) = true from decide_eq_true hc)]
      repeat' split
      all_goals omega
    · rw [if_neg (show ¬ decide (lo ≤ (n : Int) ∧ (n : Int) ≤ hi) = true by simpa using hc)]
      repeat' split
      all_goals omega
def top : Nat := 1114368
theorem cnt_cf : ∀ {l : List Rg} {a : Int}, nrmFrom a l = true → cnt l = cf (has l) top
  | [], _, _ => (cf_none (fun u _ => rfl)).symm
  | r :: l, a, h => by
    obtain ⟨h1, h2, h3⟩ := nrmFrom_cons.1 h
    have ih := cnt_cf h3
    have e := cf_or_and (fun u => r.has u) (has l) top
    have e1 : cf (fun u => r.has u) top = r.hi - r.lo + 1 := by
      have := cf_range r.lo r.hi h1.1 h1.2.1 top
      rw [show cf (fun u => r.has u) top = _ from this]
      have ht : ((top : Nat) : Int) = 1114368 := rfl
      rw [ht]
      repeat' split
      all_goals omega
    have e2 : cf (fun u => r.has u && has l u) top = 0 := cf_none (fun u _ => by
      cases hl : has l u
      · simp
      · have := nrm_lo h3 hl
        have : r.has u = false := decide_eq_false (by omega)
        rw [this]
        rfl)
    have e3 : cf (has (r :: l)) top = cf (fun u => r.has u || has l u) top := rfl
    show r.hi - r.lo + 1 + cnt l = _
    rw [ih, e3]
    omega
theorem cnt_not {l : List Rg} (h : nrm l = true) : cnt l + cnt (not_ l) = 1114368 := by
  rw [cnt_cf h, cnt_cf (not_nrm h), ← cf_or_and]
  have e1 : cf (fun u => has l u || has (not_ l) u) top = 1114368 := cf_all (n := top) (fun u hu => by
    have hu' : (u : Int) ≤ 1114367 := by have : u < 1114368 := hu; omega
    rw [not_has h]
    cases has l u <;> simp <;> omega)
  have e2 : cf (fun u => has l u && has (not_ l) u) top = 0 := cf_none (fun u hu => by
    rw [not_has h]
    cases has l u <;> simp)
  rw [e1, e2]
  rfl
theorem cnt_both {a b x y : List Rg} (ha : nrm a = true) (hb : nrm b = true) (hx : nrm x = true) (hy : nrm y = true) (h1 : ∀ u, has a u = (has x u || has y u)) (h2 : ∀ u, has b u = (has x u && has y u)) : cnt a + cnt b = cnt x + cnt y := by
  rw [cnt_cf ha, cnt_cf hb, cnt_cf hx, cnt_cf hy, ← cf_or_and (has x) (has y)]
  rw [cf_congr (f := has a) (g := fun u => has x u || has y u) (fun u _ => h1 u), cf_congr (f := has b) (g := fun u => has x u && has y u) (fun u _ => h2 u)]
end Go.Proofs.Ytoojifcpjbakgaa.Cl
