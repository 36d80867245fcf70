
/- Regions that draw their order, walked in one order: what is read may be taken first, as in the library's own law, and at an operation that all others wait for, or that waits for all others, the condition on the world may be chosen anew. -/

import Derived.Test.YtcmfgijdelaelaaCore

namespace Go.Proofs.Ytcmfgijdelaelaa.C

set_option linter.unusedVariables false

section

variable {P : Program} {ops : Array Oper} {Q : Exit → Act → World → Prop} {md : Region.Mode}

def waits (md : Region.Mode) (ops : Array Oper) (j i : Nat) : Bool :=
  match ops[j]? with
  | some o => o.after.any fun e => Region.binds md e && e.on == i
  | none => false
/-- Every other operation waits for it, or it waits for the other one (by one step, or by two). -/
def waits2 (md : Region.Mode) (ops : Array Oper) (j i : Nat) : Bool := waits md ops j i || (List.range ops.size).any fun k => waits md ops j k && waits md ops k i
def barrier (md : Region.Mode) (ops : Array Oper) (j : Nat) : Bool :=
  (List.range ops.size).all fun i => i == j || waits2 md ops j i || waits2 md ops i j
/-- What has come up has come up behind what it waits for. -/
def closed (md : Region.Mode) (ops : Array Oper) (listed : Array Bool) : Bool :=
  (List.range ops.size).all fun j => !listed.getD j false || (match ops[j]? with | some o => o.after.all fun e => !Region.binds md e || listed.getD e.on false | none => true)

def wpAnyB (P : Program) (md : Region.Mode) (ops : Array Oper) (Q : Exit → Act → World → Prop) : Nat → (World → Prop) → Array Bool → Act → World → Prop
  | 0, _, listed, a, w => Region.ready md ops listed = [] ∧ Q .normal a w
  | fuel + 1, S, listed, a, w =>
    (Region.ready md ops listed = [] → Q .normal a w) ∧
    ∀ i ∈ Region.ready md ops listed, wpOp P ops Q i (fun a' w' => if barrier md ops i = true then ∃ S' : World → Prop, wpAnyB P md ops Q fuel S' (listed.setIfInBounds i true) a' w' else S w' ∧ wpAnyB P md ops Q fuel S (listed.setIfInBounds i true) a' w') a w

theorem wpAny_of_B : ∀ (fuel : Nat) (S : World → Prop) (listed : Array Bool) (a : Act) (w : World), wpAnyB P md ops Q fuel S listed a w → wpAny P md ops Q fuel listed a w
  | 0, _, _, _, _, h => h
  | fuel + 1, S, _, _, _, h => ⟨h.1, fun i hi => wpOp_mono (fun a' w' h' => by
      split at h'
      · obtain ⟨S', h'⟩ := h'; exact wpAny_of_B fuel S' _ a' w' h'
      · exact wpAny_of_B fuel S _ a' w' h'.2) (h.2 i hi)⟩

theorem waits_ready {j i : Nat} {listed : Array Bool} (hw : waits md ops j i = true) (hj : j ∈ Region.ready md ops listed) : listed.getD i false = true := by
  obtain ⟨_, o, ho, hall⟩ := mem_ready.1 hj
  unfold waits at hw
  rw [ho] at hw
  obtain ⟨e, he, hb⟩ := Array.any_eq_true'.1 hw
  simp only [Bool.and_eq_true, beq_iff_eq] at hb
  rw [← hb.2]
  exact hall e he hb.1
theorem not_listed {i : Nat} {listed : Array Bool} (h0 : listed.getD i true = false) (h1 : listed.getD i false = true) : False := by
  rcases Nat.lt_or_ge i listed.size with h' | h'
  · simp [h'] at h0 h1; rw [h0] at h1; cases h1
  · simp [Array.getElem?_eq_none h'] at h1
theorem waits_closed {j i : Nat} {listed : Array Bool} (hc : closed md ops listed = true) (hw : waits md ops j i = true) (hj : listed.getD j false = true) : listed.getD i false = true := by
  unfold waits at hw
  split at hw
  · rename_i o ho
    obtain ⟨e, he, hb⟩ := Array.any_eq_true'.1 hw
    simp only [Bool.and_eq_true, beq_iff_eq] at hb
    unfold closed at hc
    rw [List.all_eq_true] at hc
    have h1 := hc j (List.mem_range.2 (Array.getElem?_eq_some_iff.1 ho).1)
    simp only [ho, hj, Bool.not_true, Bool.false_or] at h1
    have h2 := Array.all_eq_true_iff_forall_mem.1 h1 e he
    simp only [hb.1, Bool.not_true, Bool.false_or] at h2
    rw [← hb.2]; exact h2
  · cases hw
theorem waits2_ready {j i : Nat} {listed : Array Bool} (hc : closed md ops listed = true) (hw : waits2 md ops j i = true) (hj : j ∈ Region.ready md ops listed) : listed.getD i false = true := by
  unfold waits2 at hw
  rw [Bool.or_eq_true] at hw
  rcases hw with hw | hw
  · exact waits_ready hw hj
  · obtain ⟨k, _, hk⟩ := List.any_eq_true.1 hw
    rw [Bool.and_eq_true] at hk
    exact waits_closed hc hk.2 (waits_ready hk.1 hj)
theorem closed_set {j : Nat} {listed : Array Bool} (hc : closed md ops listed = true) (hj : j ∈ Region.ready md ops listed) : closed md ops (listed.setIfInBounds j true) = true := by
  unfold closed at hc ⊢
  rw [List.all_eq_true] at hc ⊢
  intro k hk
  have h1 := hc k hk
  by_cases hkj : j = k
  · subst hkj
    obtain ⟨_, o, ho, hall⟩ := mem_ready.1 hj
    rw [ho]
    simp only [Bool.or_eq_true]
    refine .inr (Array.all_eq_true_iff_forall_mem.2 fun e he => ?_)
    cases hb : Region.binds md e with
    | false => rfl
    | true => simp only [Bool.not_true, Bool.false_or]; exact getD_set_true (hall e he hb)
  · rw [getD_set_ne false hkj]
    rw [Bool.or_eq_true] at h1 ⊢
    refine h1.imp id fun h1 => ?_
    split
    · rename_i o ho
      rw [ho] at h1
      refine Array.all_eq_true_iff_forall_mem.2 fun e he => ?_
      have h2 := Array.all_eq_true_iff_forall_mem.1 h1 e he
      rw [Bool.or_eq_true] at h2 ⊢
      exact h2.imp id getD_set_true
    · rfl
theorem not_barrier {i j : Nat} {listed : Array Bool} (hc : closed md ops listed = true) (hi : i ∈ Region.ready md ops listed) (hj : j ∈ Region.ready md ops listed) (hne : j ≠ i) : barrier md ops j = false := by
  rw [Bool.eq_false_iff]
  intro hb
  unfold barrier at hb
  rw [List.all_eq_true] at hb
  obtain ⟨hi0, o, ho, _⟩ := mem_ready.1 hi
  have := hb i (List.mem_range.2 (Array.getElem?_eq_some_iff.1 ho).1)
  simp only [Bool.or_eq_true, beq_iff_eq] at this
  rcases this with (h | h) | h
  · exact hne h.symm
  · exact not_listed hi0 (waits2_ready hc h hj)
  · exact not_listed (mem_ready.1 hj).1 (waits2_ready hc h hi)

theorem wpAnyB_first {i : Nat} {oi : Oper} {v : Value} (hi : ops[i]? = some oi) (hsel : ∀ (j : Nat) (o : Oper) cs b, ops[j]? = some o → o.op ≠ .select cs b)
    (hQ : ∀ c a w, Q (.panic c) (a.put oi.dst v) w → Q (.panic c) a w) :
    ∀ (fuel : Nat) (S : World → Prop) (listed : Array Bool) (a : Act) (w : World), closed md ops listed = true →
      (∀ j oj, ops[j]? = some oj → j ≠ i → listed.getD j true = false → (∀ e ∈ oj.after, Region.binds md e = true → e.on ≠ i) → oi.apart ops oj = true) →
      i ∈ Region.ready md ops listed → YieldsIf P ops S oi v a → S w →
      wpAnyB P md ops Q fuel S (listed.setIfInBounds i true) (a.put oi.dst v) w → wpAnyB P md ops Q (fuel + 1) S listed a w := by
  have fin : ∀ (fuel : Nat) (S : World → Prop) (l : Array Bool) (a : Act) (w : World), S w → wpAnyB P md ops Q fuel S l a w → if barrier md ops i = true then ∃ S' : World → Prop, wpAnyB P md ops Q fuel S' l a w else S w ∧ wpAnyB P md ops Q fuel S l a w := fun fuel S l a w hS H => by
    split
    · exact ⟨S, H⟩
    · exact ⟨hS, H⟩
  intro fuel
  induction fuel with
  | zero =>
    intro S listed a w _ _ hr hy hS H
    refine ⟨fun h => (by rw [h] at hr; cases hr), fun j hj => ?_⟩
    by_cases hji : j = i
    · subst hji; exact hy.wpOp hi hS (fin _ _ _ _ _ hS H)
    · have := ready_mono hj hji
      rw [H.1] at this
      cases this
  | succ fuel ih =>
    intro S listed a w hcl hfree hr hy hS H
    refine ⟨fun h => (by rw [h] at hr; cases hr), fun j hj => ?_⟩
    by_cases hji : j = i
    · subst hji; exact hy.wpOp hi hS (fin _ _ _ _ _ hS H)
    · have hnb := not_barrier hcl hr hj hji
      have h1 := H.2 j (ready_mono hj hji)
      simp only [hnb, Bool.false_eq_true, if_false] at h1 ⊢
      obtain ⟨hjun, oj, hoj, hall⟩ := mem_ready.1 hj
      have hnot : ∀ e ∈ oj.after, Region.binds md e = true → e.on ≠ i := fun e he hb heq => by
        have h1 := hall e he hb
        have h0 := (mem_ready.1 hr).1
        rw [heq] at h1
        exact not_listed h0 h1
      have h2 := wpOp_putIf hoj (hfree j oj hoj hji hjun hnot) (fun cs b => hsel i oi cs b hi) (fun cs b => hsel j oj cs b hoj) hQ hy h1
      have hfree' : ∀ k ok, ops[k]? = some ok → k ≠ i → (listed.setIfInBounds j true).getD k true = false →
          (∀ e ∈ ok.after, Region.binds md e = true → e.on ≠ i) → oi.apart ops ok = true := fun k ok hk hki hun hno => by
        refine hfree k ok hk hki ?_ hno
        by_cases hjk : j = k
        · subst hjk; exact hjun
        · rw [getD_set_ne true hjk] at hun; exact hun
      refine wpOp_mono (fun a' w' h3 => ⟨h3.2.1, ih S (listed.setIfInBounds j true) a' w' (closed_set hcl hj) hfree' (ready_mono hr (Ne.symm hji)) h3.1 h3.2.1 ?_⟩) h2
      rw [Array.setIfInBounds_comm _ _ hji]
      exact h3.2.2

/-- Take number i first. -/
theorem wpB_take {S : World → Prop} {i : Nat} {oi : Oper} {v : Value} {fuel : Nat} {listed : Array Bool} {a : Act} {w : World} (hi : ops[i]? = some oi)
    (hcl : closed md ops listed = true) (hs : Region.noSelect ops = true) (hf : Region.free md ops listed i = true) (hr : (Region.ready md ops listed).contains i = true)
    (hQ : ∀ c a w, Q (.panic c) (a.put oi.dst v) w → Q (.panic c) a w) (hy : YieldsIf P ops S oi v a) (hS : S w)
    (h : wpAnyB P md ops Q fuel S (listed.setIfInBounds i true) (a.put oi.dst v) w) : wpAnyB P md ops Q (fuel + 1) S listed a w :=
  wpAnyB_first hi (Region.noSelect_spec hs) hQ fuel S listed a w hcl (Region.free_spec hi hf) (by simpa using hr) hy hS h
/-- The one operation that may come up. -/
theorem wpB_act {S : World → Prop} {i : Nat} {o : Oper} {fuel : Nat} {listed : Array Bool} {a : Act} {w : World} (hr : Region.ready md ops listed = [i]) (ho : ops[i]? = some o)
    (h : ∀ K' : Act → World → Prop, Shut (∀ a w, S w → (S w → wpAnyB P md ops Q fuel S (listed.setIfInBounds i true) a w) → K' a w) → if Region.wanted o (yielded ops a.tmps) = true then Oper.wp P o a w K' Q else K' (a.put o.dst undef) w) :
    wpAnyB P md ops Q (fuel + 1) S listed a w :=
  ⟨fun h0 => (by rw [hr] at h0; cases h0), fun j hj => by
    rw [hr] at hj
    rw [List.mem_singleton.1 hj]
    refine wpOp_step ho (fun K' hK => h K' (fun a w hS hW => hK a w ?_))
    split
    · exact ⟨S, hW hS⟩
    · exact ⟨hS, hW hS⟩⟩
/-- The one operation that may come up, and it stands between all others: behind it another condition. -/
theorem wpB_bar {S : World → Prop} {i : Nat} {o : Oper} {fuel : Nat} {listed : Array Bool} {a : Act} {w : World} (hr : Region.ready md ops listed = [i]) (ho : ops[i]? = some o) (hb : barrier md ops i = true)
    (h : ∀ K' : Act → World → Prop, Shut (∀ a w (S' : World → Prop), wpAnyB P md ops Q fuel S' (listed.setIfInBounds i true) a w → K' a w) → if Region.wanted o (yielded ops a.tmps) = true then Oper.wp P o a w K' Q else K' (a.put o.dst undef) w) :
    wpAnyB P md ops Q (fuel + 1) S listed a w :=
  ⟨fun h0 => (by rw [hr] at h0; cases h0), fun j hj => by
    rw [hr] at hj
    rw [List.mem_singleton.1 hj]
    refine wpOp_step ho (fun K' hK => h K' (fun a w S' hW => hK a w ?_))
    rw [if_pos hb]
    exact ⟨S', hW⟩⟩
/-- Two operations may come up next: both ways are walked. -/
theorem wpB_two {S : World → Prop} {i j : Nat} {o oj : Oper} {fuel : Nat} {listed : Array Bool} {a : Act} {w : World} (hr : Region.ready md ops listed = [i, j]) (ho : ops[i]? = some o) (hoj : ops[j]? = some oj)
    (h : ∀ K' : Act → World → Prop, Shut (∀ a w, S w → (S w → wpAnyB P md ops Q fuel S (listed.setIfInBounds i true) a w) → K' a w) → if Region.wanted o (yielded ops a.tmps) = true then Oper.wp P o a w K' Q else K' (a.put o.dst undef) w)
    (h2 : ∀ K' : Act → World → Prop, Shut (∀ a w, S w → (S w → wpAnyB P md ops Q fuel S (listed.setIfInBounds j true) a w) → K' a w) → if Region.wanted oj (yielded ops a.tmps) = true then Oper.wp P oj a w K' Q else K' (a.put oj.dst undef) w) :
    wpAnyB P md ops Q (fuel + 1) S listed a w :=
  ⟨fun h0 => (by rw [hr] at h0; cases h0), fun k hk => by
    rw [hr] at hk
    rcases List.mem_cons.1 hk with rfl | hk
    · refine wpOp_step ho (fun K' hK => h K' (fun a w hS hW => hK a w ?_))
      split
      · exact ⟨S, hW hS⟩
      · exact ⟨hS, hW hS⟩
    · rw [List.mem_singleton.1 hk]
      refine wpOp_step hoj (fun K' hK => h2 K' (fun a w hS hW => hK a w ?_))
      split
      · exact ⟨S, hW hS⟩
      · exact ⟨hS, hW hS⟩⟩
theorem wpB_firm {S : World → Prop} (S2 : World → Prop) (hS : ∀ w, S2 w → S w) : ∀ {fuel : Nat} {listed : Array Bool} {a : Act} {w : World}, wpAnyB P md ops Q fuel S2 listed a w → wpAnyB P md ops Q fuel S listed a w
  | 0, _, _, _, h => h
  | fuel + 1, _, _, _, h => ⟨h.1, fun i hi => wpOp_mono (fun a' w' h' => by
      split at h'
      · rw [if_pos (by assumption)]; exact h'
      · rw [if_neg (by assumption)]; exact ⟨hS _ h'.1, wpB_firm S2 hS h'.2⟩) (h.2 i hi)⟩
theorem wpB_done {S : World → Prop} {listed : Array Bool} {a : Act} {w : World} (hr : Region.ready md ops listed = []) (h : Q .normal a w) : ∀ fuel, wpAnyB P md ops Q fuel S listed a w
  | 0 => ⟨hr, h⟩
  | _ + 1 => ⟨fun _ => h, by rw [hr]; simp⟩
theorem wpB_start {id : Nat} {a : Act} {w : World} (S : World → Prop) (hm : P.follows .mixedOrders = true) (h : wpAnyB P .any ops Q ops.size S (Array.replicate ops.size false) a w.drew) : (Code.region id ops true).wp P Q a w :=
  wp_region_any hm (wpAny_of_B _ _ _ _ _ h)
end
theorem get_of_drop {α : Type} {l : List α} {i : Nat} {o : α} {r : List α} (h : l.drop i = o :: r) : l.toArray[i]? = some o := by
  have h2 : (l.drop i)[0]? = some o := by rw [h]; rfl
  rw [List.getElem?_drop] at h2
  simpa using h2
/-- One value in a new block. -/
theorem one_sees (W : World) (v : Value) (e : TypeId) : Sees (W.alloc (.cells #[v] e)) (fun k => k = W.heap.size) (some ⟨W.heap.size, 0, none⟩) [v] := by
  refine .inr ⟨_, rfl, rfl, fun j u hj => ?_⟩
  rw [add_at, Nat.zero_add, cellAt (blk_new W _)]
  simpa using hj
theorem own_take {w : World} {base e n m c : Nat} {A : Option Addr} {xs : List Value} (h : w.ownsRow base e 1 (.slice A n c) n xs) (hm : m ≤ n) : w.ownsRow base e 1 (.slice A m c) m (xs.take m) := by
  obtain ⟨h1, h2⟩ := h
  refine ⟨by rw [List.length_take]; omega, ?_⟩
  rcases h2 with ⟨hv, hn⟩ | ⟨g, cap, cur, hv, hg, hh, q1, q2, q3, q4⟩
  · injection hv with e1 e2 e3
    subst e1 e3
    have h0 : m = 0 := by omega
    subst h0
    exact .inl ⟨rfl, rfl⟩
  · injection hv with e1 e2 e3
    subst e1 e3
    refine .inr ⟨g, c, cur, rfl, hg, hh, by omega, q2, q3, ?_⟩
    rw [← q4, List.take_take]
    congr 1
    omega
end Go.Proofs.Ytcmfgijdelaelaa.C
