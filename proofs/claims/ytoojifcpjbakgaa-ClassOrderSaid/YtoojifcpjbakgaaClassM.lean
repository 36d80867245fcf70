/- Sets of units as plain data: lists of ranges, when they are normal, and what they have. No program in sight. -/
namespace Go.Proofs.Ytoojifcpjbakgaa.Cl
set_option linter.unusedVariables false
set_option linter.unusedSimpArgs false

structure Rg where
  lo : Int
  hi : Int
deriving DecidableEq

def Rg.right (r : Rg) : Bool := decide (0 ≤ r.lo ∧ r.lo ≤ r.hi ∧ r.hi ≤ 1114367)
def Rg.has (r : Rg) (n : Int) : Bool := decide (r.lo ≤ n ∧ n ≤ r.hi)
def has (l : List Rg) (n : Int) : Bool := l.any fun r => r.has n
/-- Normal behind a last number. -/
def nrmFrom : Int → List Rg → Bool
  | _, [] => true
  | a, r :: l => r.right && decide (a + 2 ≤ r.lo) && nrmFrom r.hi l
def nrm (l : List Rg) : Bool := nrmFrom (-2) l

theorem has_nil (n : Int) : has [] n = false := rfl
theorem has_cons (r : Rg) (l : List Rg) (n : Int) : has (r :: l) n = (r.has n || has l n) := rfl
theorem has_append (a b : List Rg) (n : Int) : has (a ++ b) n = (has a n || has b n) := by simp [has]
theorem has_perm {a b : List Rg} (h : a.Perm b) (n : Int) : has a n = has b n := by
  unfold has
  rw [Bool.eq_iff_iff, List.any_eq_true, List.any_eq_true]
  exact ⟨fun ⟨x, hx, hp⟩ => ⟨x, h.mem_iff.1 hx, hp⟩, fun ⟨x, hx, hp⟩ => ⟨x, h.mem_iff.2 hx, hp⟩⟩

theorem nrmFrom_cons {a : Int} {r : Rg} {l : List Rg} : nrmFrom a (r :: l) = true ↔ (0 ≤ r.lo ∧ r.lo ≤ r.hi ∧ r.hi ≤ 1114367) ∧ a + 2 ≤ r.lo ∧ nrmFrom r.hi l = true := by
  simp [nrmFrom, Rg.right, and_assoc]
theorem nrm_lo : ∀ {l : List Rg} {a n : Int}, nrmFrom a l = true → has l n = true → a + 2 ≤ n ∧ 0 ≤ n ∧ n ≤ 1114367
  | [], _, _, _, h => by simp [has] at h
  | r :: l, a, n, h, hn => by
    obtain ⟨h1, h2, h3⟩ := nrmFrom_cons.1 h
    rw [has_cons, Bool.or_eq_true] at hn
    rcases hn with hn | hn
    · simp only [Rg.has, decide_eq_true_eq] at hn
      omega
    · have := nrm_lo h3 hn
      omega
theorem nrm_mono {l : List Rg} {a b : Int} (h : nrmFrom a l = true) (hb : b ≤ a) : nrmFrom b l = true := by
  cases l with
  | nil => rfl
  | cons r l =>
    obtain ⟨h1, h2, h3⟩ := nrmFrom_cons.1 h
    exact nrmFrom_cons.2 ⟨h1, by omega, h3⟩
/-- Two normal lists that have the same are the same. -/
theorem nrm_ext : ∀ {l m : List Rg} {a b : Int}, nrmFrom a l = true → nrmFrom b m = true → (∀ n, has l n = has m n) → l = m
  | [], [], _, _, _, _, _ => rfl
  | [], r :: m, a, b, _, h, he => by
    obtain ⟨h1, _, _⟩ := nrmFrom_cons.1 h
    have := he r.lo
    simp [has_nil, has_cons, Rg.has, h1.2.1] at this
  | r :: l, [], a, b, h, _, he => by
    obtain ⟨h1, _, _⟩ := nrmFrom_cons.1 h
    have := he r.lo
    simp [has_nil, has_cons, Rg.has, h1.2.1] at this
  | r :: l, q :: m, a, b, h, k, he => by
    obtain ⟨h1, h2, h3⟩ := nrmFrom_cons.1 h
    obtain ⟨k1, k2, k3⟩ := nrmFrom_cons.1 k
    have key : ∀ n, ((r.lo ≤ n ∧ n ≤ r.hi) ∨ has l n = true) ↔ ((q.lo ≤ n ∧ n ≤ q.hi) ∨ has m n = true) := fun n => by
      have := he n
      rw [has_cons, has_cons, Bool.eq_iff_iff, Bool.or_eq_true, Bool.or_eq_true] at this
      simpa [Rg.has] using this
    have e1 : r.lo = q.lo := by
      have a1 := (key r.lo).1 (.inl ⟨by omega, by omega⟩)
      have a2 := (key q.lo).2 (.inl ⟨by omega, by omega⟩)
      have b1 : q.lo ≤ r.lo := by
        rcases a1 with h | h
        · omega
        · have := nrm_lo k3 h; omega
      have b2 : r.lo ≤ q.lo := by
        rcases a2 with h | h
        · omega
        · have := nrm_lo h3 h; omega
      omega
    have e2 : r.hi = q.hi := by
      rcases Int.lt_trichotomy r.hi q.hi with h | h | h
      · exfalso
        have a1 := (key (r.hi + 1)).2 (.inl ⟨by omega, by omega⟩)
        rcases a1 with a1 | a1
        · omega
        · have := nrm_lo h3 a1; omega
      · exact h
      · exfalso
        have a1 := (key (q.hi + 1)).1 (.inl ⟨by omega, by omega⟩)
        rcases a1 with a1 | a1
        · omega
        · have := nrm_lo k3 a1; omega
    have e3 : r = q := by cases r; cases q; simp at e1 e2; rw [e1, e2]
    subst e3
    have e4 := nrm_ext h3 k3 (fun n => by
      rw [Bool.eq_iff_iff]
      constructor
      · intro hn
        have q1 := nrm_lo h3 hn
        rcases (key n).1 (.inr hn) with h | h
        · omega
        · exact h
      · intro hn
        have q1 := nrm_lo k3 hn
        rcases (key n).2 (.inr hn) with h | h
        · omega
        · exact h)
    rw [e4]
theorem ext {l m : List Rg} (h : nrm l = true) (k : nrm m = true) (he : ∀ n, has l n = has m n) : l = m := nrm_ext h k he

/-! ### What it hasn't -/
def notFrom : Int → List Rg → List Rg
  | a, [] => if a ≤ 1114367 then [⟨a, 1114367⟩] else []
  | a, r :: l => (if a < r.lo then [⟨a, r.lo - 1⟩] else []) ++ notFrom (r.hi + 1) l
def not_ (l : List Rg) : List Rg := notFrom 0 l
theorem notFrom_nrm : ∀ {l : List Rg} {a b : Int}, nrmFrom (a - 2) l = true → 0 ≤ a → b + 2 ≤ a → nrmFrom b (notFrom a l) = true
  | [], a, b, _, h0, hb => by
    unfold notFrom
    split
    · exact nrmFrom_cons.2 ⟨⟨h0, by show a ≤ 1114367; omega, by show (1114367 : Int) ≤ 1114367; omega⟩, hb, rfl⟩
    · rfl
  | r :: l, a, b, h, h0, hb => by
    obtain ⟨h1, h2, h3⟩ := nrmFrom_cons.1 h
    have h3' : nrmFrom (r.hi + 1 - 2) l = true := nrm_mono h3 (by omega)
    unfold notFrom
    split
    · exact nrmFrom_cons.2 ⟨⟨h0, by show a ≤ r.lo - 1; omega, by show r.lo - 1 ≤ _; omega⟩, hb, notFrom_nrm h3' (by omega) (by show r.lo - 1 + 2 ≤ r.hi + 1; omega)⟩
    · exact notFrom_nrm h3' (by omega) (by omega)
theorem notFrom_has : ∀ {l : List Rg} {a n : Int}, nrmFrom (a - 2) l = true → 0 ≤ a → has (notFrom a l) n = decide (a ≤ n ∧ n ≤ 1114367 ∧ has l n = false)
  | [], a, n, _, h0 => by
    unfold notFrom
    split <;> rw [Bool.eq_iff_iff] <;> simp [has, Rg.has] <;> omega
  | r :: l, a, n, h, h0 => by
    obtain ⟨h1, h2, h3⟩ := nrmFrom_cons.1 h
    have h3' : nrmFrom (r.hi + 1 - 2) l = true := nrm_mono h3 (by omega)
    have ih := notFrom_has (n := n) h3' (by omega)
    have hlo := fun hn => nrm_lo (n := n) h3 hn
    unfold notFrom
    rw [has_append, ih, has_cons, Bool.eq_iff_iff]
    cases hl : has l n
    · simp only [Bool.or_false]
      split <;> simp [has, Rg.has] <;> omega
    · have := hlo hl
      split <;> simp [has, Rg.has] <;> omega
theorem not_nrm {l : List Rg} (h : nrm l = true) : nrm (not_ l) = true := notFrom_nrm (by exact h) (by omega) (by omega)
theorem not_has {l : List Rg} (h : nrm l = true) (n : Int) : has (not_ l) n = decide (0 ≤ n ∧ n ≤ 1114367 ∧ has l n = false) := notFrom_has (by exact h) (by omega)

/-! ### Ranges that are sorted, made one behind the other -/
/-- One more range behind those that are done, the last of which may be held. -/
def push : List Rg → Rg → List Rg
  | [], r => [r]
  | [q], r => if r.lo ≤ q.hi + 1 then [⟨q.lo, max q.hi r.hi⟩] else [q, r]
  | q :: p :: l, r => q :: push (p :: l) r
def lastHi : Int → List Rg → Int
  | a, [] => a
  | _, r :: l => lastHi r.hi l
def lastLo : Int → List Rg → Int
  | a, [] => a
  | _, r :: l => lastLo r.lo l
theorem push_snoc : ∀ (l : List Rg) (q r : Rg), push (l ++ [q]) r = l ++ (if r.lo ≤ q.hi + 1 then [⟨q.lo, max q.hi r.hi⟩] else [q, r])
  | [], q, r => by simp [push]
  | [a], q, r => by simp [push]
  | a :: b :: l, q, r => by
    show a :: push (b :: (l ++ [q])) r = a :: _
    rw [show b :: (l ++ [q]) = (b :: l) ++ [q] from rfl, push_snoc (b :: l) q r]
    rfl
theorem push_nrm : ∀ {l : List Rg} {a : Int} {r : Rg}, nrmFrom a l = true → r.right = true → (l = [] → a + 2 ≤ r.lo) → lastLo r.lo l ≤ r.lo → nrmFrom a (push l r) = true
  | [], a, r, _, hr, ha, _ => nrmFrom_cons.2 ⟨by simpa [Rg.right] using hr, ha rfl, rfl⟩
  | [q], a, r, h, hr, _, hl => by
    obtain ⟨h1, h2, h3⟩ := nrmFrom_cons.1 h
    have hr' : 0 ≤ r.lo ∧ r.lo ≤ r.hi ∧ r.hi ≤ 1114367 := by simpa [Rg.right] using hr
    unfold push
    split
    · exact nrmFrom_cons.2 ⟨⟨h1.1, by show q.lo ≤ max q.hi r.hi; omega, by show max q.hi r.hi ≤ _; omega⟩, h2, rfl⟩
    · exact nrmFrom_cons.2 ⟨h1, h2, nrmFrom_cons.2 ⟨hr', by omega, rfl⟩⟩
  | q :: p :: l, a, r, h, hr, _, hl => by
    obtain ⟨h1, h2, h3⟩ := nrmFrom_cons.1 h
    exact nrmFrom_cons.2 ⟨h1, h2, push_nrm h3 hr (fun h => by cases h) hl⟩
theorem push_has : ∀ {l : List Rg} {r : Rg} (n : Int), (∀ q ∈ l, q.lo ≤ q.hi) → r.lo ≤ r.hi → lastLo r.lo l ≤ r.lo → has (push l r) n = (has l n || r.has n)
  | [], r, n, _, _, _ => by simp [push, has]
  | [q], r, n, hq, hr, hl => by
    have hq' := hq q (List.mem_singleton.2 rfl)
    have hl' : q.lo ≤ r.lo := hl
    unfold push
    split <;> rw [Bool.eq_iff_iff] <;> simp [has, Rg.has] <;> omega
  | q :: p :: l, r, n, hq, hr, hl => by
    show has (q :: push (p :: l) r) n = _
    rw [has_cons, push_has n (fun x hx => hq x (List.mem_cons_of_mem _ hx)) hr hl, has_cons q, Bool.or_assoc]
theorem push_lo : ∀ {l : List Rg} {r : Rg} (x : Int), lastLo r.lo l ≤ r.lo → lastLo x (push l r) ≤ r.lo
  | [], r, x, _ => Int.le_refl _
  | [q], r, x, hl => by
    have hl' : q.lo ≤ r.lo := hl
    unfold push
    split
    · exact hl'
    · exact Int.le_refl _
  | q :: p :: l, r, x, hl => push_lo q.lo hl
theorem nrm_le : ∀ {l : List Rg} {a : Int}, nrmFrom a l = true → ∀ q ∈ l, q.lo ≤ q.hi
  | [], _, _, q, h => by cases h
  | r :: l, a, h, q, hq => by
    obtain ⟨h1, h2, h3⟩ := nrmFrom_cons.1 h
    rcases List.mem_cons.1 hq with rfl | hq
    · exact h1.2.1
    · exact nrm_le h3 q hq
theorem lastLo_free : ∀ {l : List Rg} {x y : Int}, l ≠ [] → lastLo x l = lastLo y l
  | [], _, _, h => absurd rfl h
  | _ :: _, _, _, _ => rfl
def pushAll (out l : List Rg) : List Rg := l.foldl push out
def Sorted (l : List Rg) : Prop := l.Pairwise fun a b => a.lo ≤ b.lo
theorem pushAll_spec : ∀ {l out : List Rg}, nrm out = true → (∀ r ∈ l, r.right = true) → Sorted l → (∀ r ∈ l, lastLo r.lo out ≤ r.lo) → nrm (pushAll out l) = true ∧ ∀ n, has (pushAll out l) n = (has out n || has l n)
  | [], out, ho, _, _, _ => ⟨ho, fun n => by simp [pushAll, has]⟩
  | r :: l, out, ho, hr, hs, hl => by
    obtain ⟨s1, s2⟩ := List.pairwise_cons.1 hs
    have hr0 := hr r (List.mem_cons_self ..)
    have hr1 : 0 ≤ r.lo ∧ r.lo ≤ r.hi ∧ r.hi ≤ 1114367 := by simpa [Rg.right] using hr0
    have hl0 := hl r (List.mem_cons_self ..)
    obtain ⟨q1, q2⟩ := pushAll_spec (l := l) (push_nrm ho hr0 (fun _ => by omega) hl0) (fun x hx => hr x (List.mem_cons_of_mem _ hx)) s2 (fun x hx => Int.le_trans (push_lo x.lo hl0) (s1 x hx))
    refine ⟨q1, fun n => ?_⟩
    show has (pushAll (push out r) l) n = _
    rw [q2, push_has n (nrm_le ho) hr1.2.1 hl0, has_cons, Bool.or_assoc]
end Go.Proofs.Ytoojifcpjbakgaa.Cl
