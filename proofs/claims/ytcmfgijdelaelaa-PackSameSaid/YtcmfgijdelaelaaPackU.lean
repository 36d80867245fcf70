
/- The contracts of the codec's rule, and of the closure that reads or writes one number. -/

import Derived.Test.YtcmfgijdelaelaaPackT

namespace Go.Proofs.Ytcmfgijdelaelaa.Pa

set_option linter.unusedVariables false

set_option linter.unusedSimpArgs false

open Go.RowKit Go.Proofs.Ytcmfgijdelaelaa.C

attribute [local go_sem] max2_int min2_int max_two min_two

/-- One reader behind another. -/
def thenRd {α β γ : Type} (rd1 : List UInt8 → Option (α × List UInt8)) (rd2 : List UInt8 → Option (β × List UInt8)) (f : α → β → γ) (s : List UInt8) : Option (γ × List UInt8) := (rd1 s).bind fun q => (rd2 q.2).map fun t => (f q.1 t.1, t.2)
theorem thenRd_eq {α β γ : Type} {rd1 : List UInt8 → Option (α × List UInt8)} {rd2 : List UInt8 → Option (β × List UInt8)} (f : α → β → γ) {X Y Z : Option (List UInt8)} {x : α} {y : β} (h1 : X.bind rd1 = Y.map fun r => (x, r)) (h2 : Y.bind rd2 = Z.map fun r => (y, r)) : X.bind (thenRd rd1 rd2 f) = Z.map fun r => (f x y, r) := by
  have e : X.bind (thenRd rd1 rd2 f) = (X.bind rd1).bind fun q => (rd2 q.2).map fun t => (f q.1 t.1, t.2) := by cases X <;> rfl
  rw [e, h1]
  cases Y with
  | none =>
    cases Z with
    | none => rfl
    | some z => simp at h2
  | some r =>
    rw [Option.bind_some] at h2
    rw [Option.map_some, Option.bind_some, h2]
    cases Z <;> rfl

/-- A rule's numbers. -/
def Rule.nums (r : Rule) : List Int := [r.id, r.pri, r.act, r.scope]
def mkRule : List Int → List UInt8 → Rule
  | [a, b, c, d], t => ⟨a, b, c, d, bstr t⟩
  | _, t => ⟨0, 0, 0, 0, bstr t⟩
def rdRule : List UInt8 → Option (Rule × List UInt8) := thenRd (rdList rdNum 4) rdText mkRule
def ruleCells (r : Rule) : List Value := ints r.nums ++ [.string r.pat]
/-- What a rule may be that is written. -/
def RuleOk (r : Rule) : Prop := (∀ u ∈ r.nums, NumOk u) ∧ r.pat.size ≤ 1000
theorem ruleB_eq (r : Rule) : ruleB r = r.nums.flatMap num ++ num r.pat.size ++ bts r.pat := by
  simp [ruleB, Rule.nums]
theorem ruleB_len (r : Rule) : (ruleB r).length = 30 + r.pat.size := by
  simp only [ruleB, List.length_append, num_len, bts_length]

theorem lit_sees (W : World) (cs : Array Value) (e : TypeId) : Sees (W.alloc (.cells cs e)).drew (fun k => k = W.heap.size) (some ⟨W.heap.size, 0, none⟩) cs.toList := (new_sees W cs e).chg ((Chg.refl (fun _ => False) _).drew) (fun _ _ h => h)
set_option maxHeartbeats 4000000 in
set_option maxRecDepth 100000 in
theorem rule_w {w : World} {S : Nat → Prop} {g p tp : Nat} {v : Value} {x : List UInt8} {r : Rule} (h : Wr w S g v x) (hp : w.heap[p]? = some (.cells (ruleCells r).toArray tp (0, 0))) (hpS : ¬ S p) (hok : RuleOk r) (hx : x.length ≤ 800000000) :
    Calls Try.prog 69 #[.pointer (some ⟨g, 0, none⟩), .pointer (some ⟨p, 0, none⟩)] w fun e w' => e = .returned (.tuple #[]) ∧ WrTo S g (x ++ ruleB r) w w' := by
  have HB := hid h.bound
  have HP := hid hp
  have HPL := hid (lt_of_blk hp)
  have HOK := hid hok
  clear h hp hok
  go_enter Try.func69, Try.ntmps69
  go_wp2_with fail
  refine wpB_start (fun _ : World => True) (by kernel_rfl) ?_
  have hHeld := trivial
  -- 0: t4 := move t0 : 73
  refine wpB_take (i := 0) (v := ?_) (get_of_drop rfl) (by kernel_rfl) (by kernel_rfl) (by kernel_rfl) (by kernel_rfl) (fun _ _ _ h => h) (Or.inl ⟨by rfl, ?_⟩) hHeld ?_
  rotate_left
  · (intro w hSw; (try dsimp only at hSw); go_simp <;> with_reducible rfl)
  try simp only [Act.put, List.setIfInBounds_toArray, List.set_cons_zero, List.set_cons_succ]
  -- 1: t5 := move t1 : 127
  refine wpB_take (i := 1) (v := ?_) (get_of_drop rfl) (by kernel_rfl) (by kernel_rfl) (by kernel_rfl) (by kernel_rfl) (fun _ _ _ h => h) (Or.inl ⟨by rfl, ?_⟩) hHeld ?_
  rotate_left
  · (intro w hSw; (try dsimp only at hSw); go_simp <;> with_reducible rfl)
  try simp only [Act.put, List.setIfInBounds_toArray, List.set_cons_zero, List.set_cons_succ]
  -- 2: t6 := nilCheck t5 : 0
  refine wpB_take (i := 2) (v := ?_) (get_of_drop rfl) (by kernel_rfl) (by kernel_rfl) (by kernel_rfl) (by kernel_rfl) (fun _ _ _ h => h) (Or.inl ⟨by rfl, ?_⟩) hHeld ?_
  rotate_left
  · (intro w hSw; (try dsimp only at hSw); go_simp <;> with_reducible rfl)
  try simp only [Act.put, List.setIfInBounds_toArray, List.set_cons_zero, List.set_cons_succ]
  -- 3: t7 := fieldAddr 72 t6 0 : 0
  refine wpB_take (i := 3) (v := ?_) (get_of_drop rfl) (by kernel_rfl) (by kernel_rfl) (by kernel_rfl) (by kernel_rfl) (fun _ _ _ h => h) (Or.inl ⟨by rfl, ?_⟩) hHeld ?_
  rotate_left
  · (intro w hSw; (try dsimp only at hSw); go_simp <;> with_reducible rfl)
  try simp only [Act.put, List.setIfInBounds_toArray, List.set_cons_zero, List.set_cons_succ]
  -- 4: t8 := move t1 : 127
  refine wpB_take (i := 4) (v := ?_) (get_of_drop rfl) (by kernel_rfl) (by kernel_rfl) (by kernel_rfl) (by kernel_rfl) (fun _ _ _ h => h) (Or.inl ⟨by rfl, ?_⟩) hHeld ?_
  rotate_left
  · (intro w hSw; (try dsimp only at hSw); go_simp <;> with_reducible rfl)
  try simp only [Act.put, List.setIfInBounds_toArray, List.set_cons_zero, List.set_cons_succ]
  -- 5: t9 := nilCheck t8 : 0
  refine wpB_take (i := 5) (v := ?_) (get_of_drop rfl) (by kernel_rfl) (by kernel_rfl) (by kernel_rfl) (by kernel_rfl) (fun _ _ _ h => h) (Or.inl ⟨by rfl, ?_⟩) hHeld ?_
  rotate_left
  · (intro w hSw; (try dsimp only at hSw); go_simp <;> with_reducible rfl)
  try simp only [Act.put, List.setIfInBounds_toArray, List.set_cons_zero, List.set_cons_succ]
  -- 6: t10 := fieldAddr 72 t9 1 : 0
  refine wpB_take (i := 6) (v := ?_) (get_of_drop rfl) (by kernel_rfl) (by kernel_rfl) (by kernel_rfl) (by kernel_rfl) (fun _ _ _ h => h) (Or.inl ⟨by rfl, ?_⟩) hHeld ?_
  rotate_left
  · (intro w hSw; (try dsimp only at hSw); go_simp <;> with_reducible rfl)
  try simp only [Act.put, List.setIfInBounds_toArray, List.set_cons_zero, List.set_cons_succ]
  -- 7: t11 := move t1 : 127
  refine wpB_take (i := 7) (v := ?_) (get_of_drop rfl) (by kernel_rfl) (by kernel_rfl) (by kernel_rfl) (by kernel_rfl) (fun _ _ _ h => h) (Or.inl ⟨by rfl, ?_⟩) hHeld ?_
  rotate_left
  · (intro w hSw; (try dsimp only at hSw); go_simp <;> with_reducible rfl)
  try simp only [Act.put, List.setIfInBounds_toArray, List.set_cons_zero, List.set_cons_succ]
  -- 8: t12 := nilCheck t11 : 0
  refine wpB_take (i := 8) (v := ?_) (get_of_drop rfl) (by kernel_rfl) (by kernel_rfl) (by kernel_rfl) (by kernel_rfl) (fun _ _ _ h => h) (Or.inl ⟨by rfl, ?_⟩) hHeld ?_
  rotate_left
  · (intro w hSw; (try dsimp only at hSw); go_simp <;> with_reducible rfl)
  try simp only [Act.put, List.setIfInBounds_toArray, List.set_cons_zero, List.set_cons_succ]
  -- 9: t13 := fieldAddr 72 t12 2 : 0
  refine wpB_take (i := 9) (v := ?_) (get_of_drop rfl) (by kernel_rfl) (by kernel_rfl) (by kernel_rfl) (by kernel_rfl) (fun _ _ _ h => h) (Or.inl ⟨by rfl, ?_⟩) hHeld ?_
  rotate_left
  · (intro w hSw; (try dsimp only at hSw); go_simp <;> with_reducible rfl)
  try simp only [Act.put, List.setIfInBounds_toArray, List.set_cons_zero, List.set_cons_succ]
  -- 10: t14 := move t1 : 127
  refine wpB_take (i := 10) (v := ?_) (get_of_drop rfl) (by kernel_rfl) (by kernel_rfl) (by kernel_rfl) (by kernel_rfl) (fun _ _ _ h => h) (Or.inl ⟨by rfl, ?_⟩) hHeld ?_
  rotate_left
  · (intro w hSw; (try dsimp only at hSw); go_simp <;> with_reducible rfl)
  try simp only [Act.put, List.setIfInBounds_toArray, List.set_cons_zero, List.set_cons_succ]
  -- 11: t15 := nilCheck t14 : 0
  refine wpB_take (i := 11) (v := ?_) (get_of_drop rfl) (by kernel_rfl) (by kernel_rfl) (by kernel_rfl) (by kernel_rfl) (fun _ _ _ h => h) (Or.inl ⟨by rfl, ?_⟩) hHeld ?_
  rotate_left
  · (intro w hSw; (try dsimp only at hSw); go_simp <;> with_reducible rfl)
  try simp only [Act.put, List.setIfInBounds_toArray, List.set_cons_zero, List.set_cons_succ]
  -- 12: t16 := fieldAddr 72 t15 3 : 0
  refine wpB_take (i := 12) (v := ?_) (get_of_drop rfl) (by kernel_rfl) (by kernel_rfl) (by kernel_rfl) (by kernel_rfl) (fun _ _ _ h => h) (Or.inl ⟨by rfl, ?_⟩) hHeld ?_
  rotate_left
  · (intro w hSw; (try dsimp only at hSw); go_simp <;> with_reducible rfl)
  try simp only [Act.put, List.setIfInBounds_toArray, List.set_cons_zero, List.set_cons_succ]
  -- 13: t17 := buildSlice 115 4 [⟨0, t7⟩, ⟨1, t10⟩, ⟨2, t13⟩, ⟨3, t16⟩] : 115
  refine wpB_act (i := 13) (by kernel_rfl) (get_of_drop rfl) (fun K hK => ?_)
  go_simp
  refine hK.out _ _ ?_ (fun hHeld2 => ?_)
  · exact trivial
  clear hHeld hK K
  have hHeld := hHeld2
  clear hHeld2
  try simp only [Act.put, List.setIfInBounds_toArray, List.set_cons_zero, List.set_cons_succ]
  -- 14: t18 := CALL fn55(t4, t17) : 0
  refine wpB_act (i := 14) (by kernel_rfl) (get_of_drop rfl) (fun K hK => ?_)
  go_simp
  have CC := hid (show Chg (fun _ => False) w (w.alloc (.cells (ptrs p 4).toArray 102)).drew from ((Chg.refl _ w).alloc _).drew)
  refine (num_w (vs := r.nums) (p := p) (R := fun k => k = w.heap.size) (HB.out.chg CC.out (fun _ _ h => h)) (lit_sees w (ptrs p 4).toArray 102) (fun k hk hs => by have := hs.2; omega) (fun i u hi => by
    rw [cellAt (CC.out.blk HP.out (fun h => h))]
    exact ints_at hi _) (fun hs => hpS hs.1) (fun u hu => HOK.out.1 u hu) (by omega) (by show 4 ≤ 7; omega)).mono ?_
  rintro e w1 ⟨rfl, h1⟩
  have HT := hid (WrTo.pre (S := S) CC.out h1 (fun k hk => .inl hk.1))
  have HP1 := hid (show w1.heap[p]? = _ from (by obtain ⟨v1, _, hc⟩ := h1; exact hc.blk (CC.out.blk HP.out (fun h => h)) (fun hs => hpS hs.1)))
  clear h1
  refine hK.out _ _ ?_ (fun hHeld2 => ?_)
  · exact trivial
  clear hHeld hK K
  have hHeld := hHeld2
  clear hHeld2
  try simp only [Act.put, List.setIfInBounds_toArray, List.set_cons_zero, List.set_cons_succ]
  refine wpB_done (by kernel_rfl) ?_ _
  clear hHeld
  have HV := HT.out
  obtain ⟨v1, hv1, hc1⟩ := HV
  have H1 := hid hv1.bound
  clear hv1
  go_wp2_with fail
  refine (text_w (s := r.pat) H1.out (by rw [cellAt HP1.out]; rfl) (fun hs => by have := HPL.out; rcases hs.1 with h | h; exact hpS h; omega) (by have := HOK.out.2; omega) (by rw [List.length_append, flatMap_num_len]; show _ + 6 * 4 ≤ _; omega)).mono ?_
  rintro e w2 ⟨rfl, h2⟩
  have HF := hid (HT.out.trans (WrTo.pre (Chg.refl _ _) h2 (fun k hk => .inl hk.1)))
  clear h2
  go_wp2_with fail
  go_end0
  refine ⟨rfl, ?_⟩
  rw [ruleB_eq, ← List.append_assoc, ← List.append_assoc]
  exact HF.out

def RuleWf (r : Rule) : Prop := (∀ u ∈ r.nums, (Lit.int .i64 u).wf = true) ∧ r.pat.size ≤ maxLen
/-- A rule was read into a block. -/
def RuleTo (w : World) (B g : Nat) (A : Option Addr) (n c : Nat) (b : List UInt8) (at_ : Nat) (bad : Bool) (p tp : Nat) (w' : World) : Prop :=
  ∃ r : Rule, RuleWf r ∧ w'.heap[p]? = some (.cells (ruleCells r).toArray tp (0, 0)) ∧ Chg (fun j => j = g ∨ j = p) w w' ∧ RdTo B g A n c b at_ bad rdRule w' r

set_option maxHeartbeats 4000000 in
set_option maxRecDepth 100000 in
theorem rule_r {w : World} {B g p tp : Nat} {A : Option Addr} {n c : Nat} {b : List UInt8} {at_ : Nat} {bad : Bool} {r : Rule} (h : Rd w B g A n c b at_ bad) (hp : w.heap[p]? = some (.cells (ruleCells r).toArray tp (0, 0))) (hpB : B ≤ p) (hpg : p ≠ g) (hwf : RuleWf r) (hn : n ≤ 1000000000) :
    Calls Try.prog 69 #[.pointer (some ⟨g, 0, none⟩), .pointer (some ⟨p, 0, none⟩)] w fun e w' => e = .returned (.tuple #[]) ∧ RuleTo w B g A n c b at_ bad p tp w' := by
  have H := hid h
  have HP := hid hp
  have HPL := hid (lt_of_blk hp)
  have HGL := hid h.lt
  have HWF := hid hwf
  clear h hp hwf
  go_enter Try.func69, Try.ntmps69
  go_wp2_with fail
  refine wpB_start (fun _ : World => True) (by kernel_rfl) ?_
  have hHeld := trivial
  -- 0: t4 := move t0 : 73
  refine wpB_take (i := 0) (v := ?_) (get_of_drop rfl) (by kernel_rfl) (by kernel_rfl) (by kernel_rfl) (by kernel_rfl) (fun _ _ _ h => h) (Or.inl ⟨by rfl, ?_⟩) hHeld ?_
  rotate_left
  · (intro w hSw; (try dsimp only at hSw); go_simp <;> with_reducible rfl)
  try simp only [Act.put, List.setIfInBounds_toArray, List.set_cons_zero, List.set_cons_succ]
  -- 1: t5 := move t1 : 127
  refine wpB_take (i := 1) (v := ?_) (get_of_drop rfl) (by kernel_rfl) (by kernel_rfl) (by kernel_rfl) (by kernel_rfl) (fun _ _ _ h => h) (Or.inl ⟨by rfl, ?_⟩) hHeld ?_
  rotate_left
  · (intro w hSw; (try dsimp only at hSw); go_simp <;> with_reducible rfl)
  try simp only [Act.put, List.setIfInBounds_toArray, List.set_cons_zero, List.set_cons_succ]
  -- 2: t6 := nilCheck t5 : 0
  refine wpB_take (i := 2) (v := ?_) (get_of_drop rfl) (by kernel_rfl) (by kernel_rfl) (by kernel_rfl) (by kernel_rfl) (fun _ _ _ h => h) (Or.inl ⟨by rfl, ?_⟩) hHeld ?_
  rotate_left
  · (intro w hSw; (try dsimp only at hSw); go_simp <;> with_reducible rfl)
  try simp only [Act.put, List.setIfInBounds_toArray, List.set_cons_zero, List.set_cons_succ]
  -- 3: t7 := fieldAddr 72 t6 0 : 0
  refine wpB_take (i := 3) (v := ?_) (get_of_drop rfl) (by kernel_rfl) (by kernel_rfl) (by kernel_rfl) (by kernel_rfl) (fun _ _ _ h => h) (Or.inl ⟨by rfl, ?_⟩) hHeld ?_
  rotate_left
  · (intro w hSw; (try dsimp only at hSw); go_simp <;> with_reducible rfl)
  try simp only [Act.put, List.setIfInBounds_toArray, List.set_cons_zero, List.set_cons_succ]
  -- 4: t8 := move t1 : 127
  refine wpB_take (i := 4) (v := ?_) (get_of_drop rfl) (by kernel_rfl) (by kernel_rfl) (by kernel_rfl) (by kernel_rfl) (fun _ _ _ h => h) (Or.inl ⟨by rfl, ?_⟩) hHeld ?_
  rotate_left
  · (intro w hSw; (try dsimp only at hSw); go_simp <;> with_reducible rfl)
  try simp only [Act.put, List.setIfInBounds_toArray, List.set_cons_zero, List.set_cons_succ]
  -- 5: t9 := nilCheck t8 : 0
  refine wpB_take (i := 5) (v := ?_) (get_of_drop rfl) (by kernel_rfl) (by kernel_rfl) (by kernel_rfl) (by kernel_rfl) (fun _ _ _ h => h) (Or.inl ⟨by rfl, ?_⟩) hHeld ?_
  rotate_left
  · (intro w hSw; (try dsimp only at hSw); go_simp <;> with_reducible rfl)
  try simp only [Act.put, List.setIfInBounds_toArray, List.set_cons_zero, List.set_cons_succ]
  -- 6: t10 := fieldAddr 72 t9 1 : 0
  refine wpB_take (i := 6) (v := ?_) (get_of_drop rfl) (by kernel_rfl) (by kernel_rfl) (by kernel_rfl) (by kernel_rfl) (fun _ _ _ h => h) (Or.inl ⟨by rfl, ?_⟩) hHeld ?_
  rotate_left
  · (intro w hSw; (try dsimp only at hSw); go_simp <;> with_reducible rfl)
  try simp only [Act.put, List.setIfInBounds_toArray, List.set_cons_zero, List.set_cons_succ]
  -- 7: t11 := move t1 : 127
  refine wpB_take (i := 7) (v := ?_) (get_of_drop rfl) (by kernel_rfl) (by kernel_rfl) (by kernel_rfl) (by kernel_rfl) (fun _ _ _ h => h) (Or.inl ⟨by rfl, ?_⟩) hHeld ?_
  rotate_left
  · (intro w hSw; (try dsimp only at hSw); go_simp <;> with_reducible rfl)
  try simp only [Act.put, List.setIfInBounds_toArray, List.set_cons_zero, List.set_cons_succ]
  -- 8: t12 := nilCheck t11 : 0
  refine wpB_take (i := 8) (v := ?_) (get_of_drop rfl) (by kernel_rfl) (by kernel_rfl) (by kernel_rfl) (by kernel_rfl) (fun _ _ _ h => h) (Or.inl ⟨by rfl, ?_⟩) hHeld ?_
  rotate_left
  · (intro w hSw; (try dsimp only at hSw); go_simp <;> with_reducible rfl)
  try simp only [Act.put, List.setIfInBounds_toArray, List.set_cons_zero, List.set_cons_succ]
  -- 9: t13 := fieldAddr 72 t12 2 : 0
  refine wpB_take (i := 9) (v := ?_) (get_of_drop rfl) (by kernel_rfl) (by kernel_rfl) (by kernel_rfl) (by kernel_rfl) (fun _ _ _ h => h) (Or.inl ⟨by rfl, ?_⟩) hHeld ?_
  rotate_left
  · (intro w hSw; (try dsimp only at hSw); go_simp <;> with_reducible rfl)
  try simp only [Act.put, List.setIfInBounds_toArray, List.set_cons_zero, List.set_cons_succ]
  -- 10: t14 := move t1 : 127
  refine wpB_take (i := 10) (v := ?_) (get_of_drop rfl) (by kernel_rfl) (by kernel_rfl) (by kernel_rfl) (by kernel_rfl) (fun _ _ _ h => h) (Or.inl ⟨by rfl, ?_⟩) hHeld ?_
  rotate_left
  · (intro w hSw; (try dsimp only at hSw); go_simp <;> with_reducible rfl)
  try simp only [Act.put, List.setIfInBounds_toArray, List.set_cons_zero, List.set_cons_succ]
  -- 11: t15 := nilCheck t14 : 0
  refine wpB_take (i := 11) (v := ?_) (get_of_drop rfl) (by kernel_rfl) (by kernel_rfl) (by kernel_rfl) (by kernel_rfl) (fun _ _ _ h => h) (Or.inl ⟨by rfl, ?_⟩) hHeld ?_
  rotate_left
  · (intro w hSw; (try dsimp only at hSw); go_simp <;> with_reducible rfl)
  try simp only [Act.put, List.setIfInBounds_toArray, List.set_cons_zero, List.set_cons_succ]
  -- 12: t16 := fieldAddr 72 t15 3 : 0
  refine wpB_take (i := 12) (v := ?_) (get_of_drop rfl) (by kernel_rfl) (by kernel_rfl) (by kernel_rfl) (by kernel_rfl) (fun _ _ _ h => h) (Or.inl ⟨by rfl, ?_⟩) hHeld ?_
  rotate_left
  · (intro w hSw; (try dsimp only at hSw); go_simp <;> with_reducible rfl)
  try simp only [Act.put, List.setIfInBounds_toArray, List.set_cons_zero, List.set_cons_succ]
  -- 13: t17 := buildSlice 115 4 [⟨0, t7⟩, ⟨1, t10⟩, ⟨2, t13⟩, ⟨3, t16⟩] : 115
  refine wpB_act (i := 13) (by kernel_rfl) (get_of_drop rfl) (fun K hK => ?_)
  go_simp
  refine hK.out _ _ ?_ (fun hHeld2 => ?_)
  · exact trivial
  clear hHeld hK K
  have hHeld := hHeld2
  clear hHeld2
  try simp only [Act.put, List.setIfInBounds_toArray, List.set_cons_zero, List.set_cons_succ]
  -- 14: t18 := CALL fn55(t4, t17) : 0
  refine wpB_act (i := 14) (by kernel_rfl) (get_of_drop rfl) (fun K hK => ?_)
  go_simp
  have CC := hid (show Chg (fun _ => False) w (w.alloc (.cells (ptrs p 4).toArray 102)).drew from ((Chg.refl _ w).alloc _).drew)
  refine (num_r (vs := r.nums) (r := [.string r.pat]) (p := p) (tp := tp) (R := fun k => k = w.heap.size) (H.out.chg CC.out (fun _ h => h.elim) (fun h => h)) (lit_sees w (ptrs p 4).toArray 102) (fun k hk => by have := HPL.out; have := HGL.out; omega) (CC.out.blk HP.out (fun h => h)) hpB hpg HWF.out.1 hn (by show 4 ≤ 7; omega)).mono ?_
  rintro e w1 ⟨rfl, us, hus, hw, hblk, hchg, at', bad', hrd, heq⟩
  have HT := hid (And.intro hus (And.intro hw (And.intro hblk (And.intro ((CC.out.mono (S' := fun j => j = g ∨ j = p) (fun _ h _ => h.elim)).trans hchg (fun _ h _ => h)) (And.intro hrd heq)))))
  clear hus hw hblk hchg hrd heq
  refine hK.out _ _ ?_ (fun hHeld2 => ?_)
  · exact trivial
  clear hHeld hK K
  have hHeld := hHeld2
  clear hHeld2
  try simp only [Act.put, List.setIfInBounds_toArray, List.set_cons_zero, List.set_cons_succ]
  refine wpB_done (by kernel_rfl) ?_ _
  clear hHeld
  obtain ⟨q1, q2, q3, q4, q5, q6⟩ := HT.out
  have Q3 := hid q3
  have Q5 := hid q5
  have Q1 := hid (show us.length = 4 from q1)
  clear q1 q2 q3 q4 q5 q6
  go_wp2_with fail
  refine (text_r (us := us) (s := r.pat) Q5.out Q3.out Q1.out hpB hpg HWF.out.2 hn).mono ?_
  rintro e w2 ⟨rfl, s, h1, h2, h3, at2, bad2, h4, h5⟩
  have H1 := hid h1
  have H2 := hid h2
  have H3 := hid h3
  have H4 := hid h4
  have H5 := hid h5
  clear h1 h2 h3 h4 h5
  go_wp2_with fail
  go_end0
  obtain ⟨q1, q2, q3, q4, q5, q6⟩ := HT.out
  obtain ⟨u0, u1, u2, u3, rfl⟩ : ∃ u0 u1 u2 u3, us = [u0, u1, u2, u3] := by
    match us, Q1.out with
    | [a, b, c, d], _ => exact ⟨a, b, c, d, rfl⟩
  exact ⟨rfl, mkRule [u0, u1, u2, u3] (bts s), ⟨q2, H1.out⟩, H2.out, q4.trans H3.out (fun _ h _ => h), at2, bad2, H4.out, thenRd_eq mkRule q6 H5.out⟩

/-! ### One number, by the closure -/

set_option maxHeartbeats 4000000 in
set_option maxRecDepth 100000 in
theorem one_w {w : World} {S : Nat → Prop} {g p bx tp : Nat} {v : Value} {x : List UInt8} {u : Int} (h : Wr w S g v x) (hp : w.heap[p]? = some (.cells #[.int .i64 u] tp (0, 0))) (hpS : ¬ S p) (hb : w.cell? ⟨bx, 0, none⟩ = some (.pointer (some ⟨g, 0, none⟩))) (hok : NumOk u) (hx : x.length ≤ 800000000) :
    Calls Try.prog 71 #[.pointer (some ⟨p, 0, none⟩), .pointer (some ⟨bx, 0, none⟩)] w fun e w' => e = .returned (.tuple #[]) ∧ WrTo S g (x ++ num u) w w' := by
  have HB := hid h.bound
  have HP := hid hp
  have HPL := hid (lt_of_blk hp)
  have HOK := hid hok
  clear h hp hok
  go_enter Try.func71, Try.ntmps71
  go_wp2_with fail
  have CC := hid (show Chg (fun _ => False) w (w.alloc (.cells (ptrs p 1).toArray 102)) from (Chg.refl _ w).alloc _)
  refine (num_w (vs := [u]) (p := p) (R := fun k => k = w.heap.size) (HB.out.chg CC.out (fun _ _ h => h)) (new_sees w (ptrs p 1).toArray 102) (fun k hk hs => by have := hs.2; omega) (fun i y hi => by
    rw [cellAt (CC.out.blk HP.out (fun h => h))]
    cases i with
    | zero => simp at hi; subst hi; rfl
    | succ i => simp at hi) (fun hs => hpS hs.1) (fun y hy => by rw [List.mem_singleton.1 hy]; exact HOK.out) (by omega) (by simp)).mono ?_
  rintro e w1 ⟨rfl, h1⟩
  rw [List.flatMap_singleton] at h1
  have HT := hid (WrTo.pre (S := S) CC.out h1 (fun k hk => .inl hk.1))
  clear h1
  go_wp2_with fail
  go_end0
  exact ⟨rfl, HT.out⟩

/-- A number was read into a block. -/
def OneTo (w : World) (B g : Nat) (A : Option Addr) (n c : Nat) (b : List UInt8) (at_ : Nat) (bad : Bool) (p tp : Nat) (w' : World) : Prop :=
  ∃ u : Int, (Lit.int .i64 u).wf = true ∧ w'.heap[p]? = some (.cells #[.int .i64 u] tp (0, 0)) ∧ Chg (fun j => j = g ∨ j = p) w w' ∧ RdTo B g A n c b at_ bad rdNum w' u
theorem rdOne_of {X Y : Option (List UInt8)} {u : Int} (h : X.bind (rdList rdNum 1) = Y.map fun r => ([u], r)) : X.bind rdNum = Y.map fun r => (u, r) := by
  have e := rdList_succ rdNum 0
  cases X with
  | none => cases Y with
    | none => rfl
    | some y => simp at h
  | some xb =>
    rw [Option.bind_some, e] at h
    rw [Option.bind_some]
    cases hr : rdNum xb with
    | none =>
      rw [hr] at h
      cases Y with
      | none => rfl
      | some y => simp at h
    | some r =>
      rw [hr] at h
      cases Y with
      | none => simp [rdList] at h
      | some y =>
        simp [rdList] at h
        obtain ⟨h1, h2⟩ := h
        subst h1 h2
        rfl

set_option maxHeartbeats 4000000 in
set_option maxRecDepth 100000 in
theorem one_r {w : World} {B g p bx tp : Nat} {A : Option Addr} {n c : Nat} {b : List UInt8} {at_ : Nat} {bad : Bool} {u : Int} (h : Rd w B g A n c b at_ bad) (hp : w.heap[p]? = some (.cells #[.int .i64 u] tp (0, 0))) (hpB : B ≤ p) (hpg : p ≠ g) (hb : w.cell? ⟨bx, 0, none⟩ = some (.pointer (some ⟨g, 0, none⟩))) (hwf : (Lit.int .i64 u).wf = true) (hn : n ≤ 1000000000) :
    Calls Try.prog 71 #[.pointer (some ⟨p, 0, none⟩), .pointer (some ⟨bx, 0, none⟩)] w fun e w' => e = .returned (.tuple #[]) ∧ OneTo w B g A n c b at_ bad p tp w' := by
  have H := hid h
  have HP := hid hp
  have HPL := hid (lt_of_blk hp)
  have HGL := hid h.lt
  have HWF := hid hwf
  clear h hp hwf
  go_enter Try.func71, Try.ntmps71
  go_wp2_with fail
  have CC := hid (show Chg (fun _ => False) w (w.alloc (.cells (ptrs p 1).toArray 102)) from (Chg.refl _ w).alloc _)
  refine (num_r (vs := [u]) (r := []) (p := p) (tp := tp) (R := fun k => k = w.heap.size) (H.out.chg CC.out (fun _ h => h.elim) (fun h => h)) (new_sees w (ptrs p 1).toArray 102) (fun k hk => by have := HPL.out; have := HGL.out; omega) (CC.out.blk HP.out (fun h => h)) hpB hpg (fun y hy => by rw [List.mem_singleton.1 hy]; exact HWF.out) hn (by simp)).mono ?_
  rintro e w1 ⟨rfl, us, hus, hw, hblk, hchg, at', bad', hrd, heq⟩
  obtain ⟨y, rfl⟩ : ∃ y, us = [y] := by
    match us, hus with
    | [y], _ => exact ⟨y, rfl⟩
  have HT := hid (show OneTo w B g A n c b at_ bad p tp w1 from ⟨y, hw y (List.mem_singleton.2 rfl), hblk, (CC.out.mono (S' := fun j => j = g ∨ j = p) (fun _ h _ => h.elim)).trans hchg (fun _ h _ => h), at', bad', hrd, rdOne_of heq⟩)
  clear hus hw hblk hchg hrd heq
  go_wp2_with fail
  go_end0
  exact ⟨rfl, HT.out⟩
end Go.Proofs.Ytcmfgijdelaelaa.Pa
