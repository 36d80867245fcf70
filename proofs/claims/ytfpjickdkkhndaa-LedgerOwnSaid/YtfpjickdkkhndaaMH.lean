/- Texts of this claim, one behind the other: LedH, LedI, LedJ. -/
import Derived.Test.YtfpjickdkkhndaaMG
import Derived.Test.YtfpjickdkkhndaaMD
import Derived.Test.YtfpjickdkkhndaaME

/- The contract of Save. -/

namespace Go.Proofs.Ytfpjickdkkhndaa.Pa

set_option linter.unusedVariables false

set_option linter.unusedSimpArgs false

open Go.RowKit Go.Proofs.Ytfpjickdkkhndaa.C

attribute [local go_sem] max2_int min2_int max_two min_two
theorem flat_most_ {α : Type} {f : α → List UInt8} {K : Nat} : ∀ {l : List α}, (∀ x ∈ l, (f x).length ≤ K) → (l.flatMap f).length ≤ K * l.length
  | [], _ => Nat.zero_le _
  | x :: l, h => by
    rw [List.flatMap_cons, List.length_append, List.length_cons, Nat.mul_succ]
    have h1 := h x List.mem_cons_self
    have h2 := flat_most_ (l := l) (fun y hy => h y (List.mem_cons_of_mem _ hy))
    omega
theorem entryB_most_ {e : Entry} (h : entryR e = true) : (entryB e).length ≤ 6000 := by
  unfold entryR at h
  simp only [Bool.and_eq_true, decide_eq_true_eq, List.all_eq_true] at h
  have h1 := flat_most_ (f := ruleB) (K := 286) (l := e.put) (fun r hr => by have := of_decide_eq_true (h.1.2 r hr); rw [ruleB_len]; omega)
  have h2 := h.1.1.1.2
  have h3 := h.1.1.2
  have h4 : 286 * e.put.length ≤ 286 * 16 := Nat.mul_le_mul_left _ h2
  unfold entryB
  simp only [List.length_append, num_len, flatMap_num_len]
  omega
theorem recB_most_ {m : Rec} (h : recR m = true) : (recB m).length ≤ 6100 := by
  rw [recR_iff] at h
  have h1 : (m.nums.flatMap num).length = 18 := by rw [flatMap_num_len]; rfl
  unfold recB logB
  simp only [List.length_append, num_len]
  have h2 : (m.log.flatMap entryB).length ≤ 6000 := by
    have h3 := h.2
    split at h3
    · have h4 := flat_most_ (f := entryB) (K := 6000) (l := m.log) (fun e he => entryB_most_ (h3.2 e he))
      rw [h3.1] at h4
      exact h4
    · have h4 : m.log = [] := List.eq_nil_of_length_eq_zero h3
      rw [h4]
      exact Nat.zero_le _
  omega
theorem framesB_most {l : List Rec} (h : ∀ r ∈ l, recR r = true) : (framesB l).length ≤ 6110 * l.length := flat_most_ (fun r hr => by rw [FrameP.frame_length]; have := recB_most_ (h r hr); omega)
theorem framesB_snoc (l : List Rec) (r : Rec) : framesB (l ++ [r]) = framesB l ++ FrameP.frame (recB r) := by rw [framesB_append]; simp [framesB]
open Go.Proofs.Ytfpjickdkkhndaa.T in

/-- What saving does to the tape, the ledger's state, and whether it is broken; what it answers. -/
def saveT (t : TS) (s : St) (br : Bool) (s2 : St) : TS × St × Bool × Int :=
  if br = true then (t, s, true, 40)
  else if (betweenS s s2).2 ≠ 0 ∨ (betweenS s s2).1 = [] then (t, s, false, (betweenS s s2).2)
  else if (t.append (framesB (betweenS s s2).1)).2 ≠ 0 then ((t.append (framesB (betweenS s s2).1)).1, s, true, (t.append (framesB (betweenS s s2).1)).2)
  else if (t.append (framesB (betweenS s s2).1)).1.sync.2 ≠ 0 then ((t.append (framesB (betweenS s s2).1)).1.sync.1, s, true, (t.append (framesB (betweenS s s2).1)).1.sync.2)
  else ((t.append (framesB (betweenS s s2).1)).1.sync.1, s2, false, 0)
open Go.Proofs.Ytfpjickdkkhndaa.T in
theorem saveT_ok {t : TS} (h : t.Ok) (s : St) (br : Bool) (s2 : St) : (saveT t s br s2).1.Ok := by
  unfold saveT
  split
  · exact h
  split
  · exact h
  split
  · exact TS.append_ok h _
  split
  · exact TS.sync_ok (TS.append_ok h _)
  · exact TS.sync_ok (TS.append_ok h _)
theorem between_ok {a b : St} (h : (betweenS a b).2 = 0) : stR a = true ∧ stR b = true ∧ (betweenS a b).1 = recordsS a b ∧ applyAll a (recordsS a b) = some b := by
  unfold betweenS at h ⊢
  split at h
  · rename_i hr
    rw [if_pos hr]
    rw [Bool.and_eq_true] at hr
    have hl := records_lead hr.1 hr.2
    split at h
    · rename_i c hc
      rw [hc]
      refine ⟨hr.1, hr.2, rfl, ?_⟩
      rw [hc] at hl
      split at hl
      · exact hl
      · cases hl
    · cases h
  · cases h
theorem recordsS_few {a b : St} (hb : stR b = true) : (recordsS a b).length ≤ 70 := by
  have h1 := (stR_iff.1 hb).1
  unfold recordsS
  simp only [List.length_append, List.length_map, List.length_drop]
  have e : ∀ (p : Prop) [Decidable p] (r : Rec), (if p then [r] else []).length ≤ 1 := fun p _ r => by split <;> simp
  have e1 := e (a.view ≠ b.view) ⟨1, b.view, a.normal, []⟩
  have e2 := e (common a.log b.log < a.log.length) ⟨3, common a.log b.log, 0, []⟩
  have e3 := e (a.normal ≠ b.normal) ⟨1, b.view, b.normal, []⟩
  have e4 := e (a.commit ≠ b.commit) ⟨4, b.commit, 0, []⟩
  have e5 := e (a.active ≠ b.active) ⟨5, b.active, 0, []⟩
  omega
/-- Bytes of one's own in new memory. -/
def BytesAt (w1 wr : World) (v : Value) (x : List UInt8) : Prop := (∃ A c, v = .slice A x.length c) ∧ Byt wr (fun k => w1.heap.size ≤ k) v x ∧ Chg (fun _ => False) w1 wr
open Go.Proofs.Ytfpjickdkkhndaa.T in

/-- A ledger that was changed. -/
theorem led_put {w w' : World} {S : Nat → Prop} {p g : Nat} {v v' : Value} {t t' : TS} {s s' : St} {br br' : Bool} {A A' : Option Addr} {n c n' c' : Nat} (h : LedAt w S p g v t s br A n c)
    (hb : w'.heap[p]? = some (.cells (stRow [.pointer (some ⟨g, 0, none⟩)] [.bool br'] s' A' n' c') 74 (0, 0))) (ht : TapeAt w' (fun k => (k = g ∨ v.ownBlock = some k) ∨ w.heap.size ≤ k) g v' t')
    (hl : Ty.At entryK w' (fun k => ((S k ∧ k ≠ p ∧ k ≠ g ∧ v.ownBlock ≠ some k ∧ k < w.heap.size) ∨ w.heap.size ≤ k) ∧ v'.ownBlock ≠ some k) A' n' c' s'.log) (hr : stR s' = true) :
    LedAt w' (fun k => S k ∨ w.heap.size ≤ k) p g v' t' s' br' A' n' c' := by
  have h1 := lt_of_blk h.blk
  have h2 := lt_of_blk h.tape.blk
  refine ⟨.inl h.inS, hb, tape_core ht, fun k hk => ?_, hl.mono (fun k hk => ?_), hr⟩
  · rcases tape_in ht k hk with q | q
    · exact ⟨.inl (h.tapeS k q).1, (h.tapeS k q).2⟩
    · exact ⟨.inr q, by omega⟩
  · rcases hk.1 with q | q
    · exact ⟨.inl q.1, q.2.1, q.2.2.1, hk.2⟩
    · exact ⟨.inr q, by omega, by omega, hk.2⟩
open Go.Proofs.Ytfpjickdkkhndaa.T in
def SaveTo (S : Nat → Prop) (p g : Nat) (t : TS) (s : St) (br : Bool) (s2 : St) (w : World) (e' : Ending) (w' : World) : Prop :=
  e' = .returned (.int .i64 (saveT t s br s2).2.2.2) ∧ ∃ v' A' n' c', LedAt w' (fun k => S k ∨ w.heap.size ≤ k) p g v' (saveT t s br s2).1 (saveT t s br s2).2.1 (saveT t s br s2).2.2.1 A' n' c' ∧ Chg S w w'
set_option maxHeartbeats 4000000 in
set_option maxRecDepth 100000 in
theorem Save_any {w : World} {S : Nat → Prop} {p g : Nat} {v : Value} {t : T.TS} {s : St} {br : Bool} {A : Option Addr} {n c : Nat} {R2 : Nat → Prop} {s2 : St} {B : Option Addr} {k d : Nat} (h : LedAt w S p g v t s br A n c) (hok : t.Ok) (h2 : Ty.At entryK w R2 B k d s2.log) (hR2 : ∀ j, R2 j → ¬ S j) :
    Calls Try.prog 13 #[.pointer (some ⟨p, 0, none⟩), .agg #[.int .i64 s2.view, .int .i64 s2.normal, .int .i64 s2.commit, .int .i64 s2.active, .slice B k d]] w (SaveTo S p g t s br s2 w) := by
  obtain ⟨w0, hw0⟩ : ∃ x, x = (w.alloc (.cells #[.int .i64 s2.view, .int .i64 s2.normal, .int .i64 s2.commit, .int .i64 s2.active, .slice B k d] 32)) := ⟨_, rfl⟩
  have C0 := hid (show Chg (fun _ => False) w w0 by rw [hw0]; exact (Chg.refl _ w).alloc _)
  have BB := hid (show w0.heap[w.heap.size]? = some (.cells #[.int .i64 s2.view, .int .i64 s2.normal, .int .i64 s2.commit, .int .i64 s2.active, .slice B k d] 32 (0, 0)) by
    rw [hw0]
    have := blk_new w (.cells #[.int .i64 s2.view, .int .i64 s2.normal, .int .i64 s2.commit, .int .i64 s2.active, .slice B k d] 32)
    simpa using this)
  have SZ := hid (show w0.heap.size = w.heap.size + 1 by rw [hw0]; simp)
  have HLE := hid (h.chg C0.out (fun _ _ h => h))
  have HB := hid (h2.bound.chg C0.out (fun _ _ h => h))
  have HOK := hid hok
  have HR2 := hid hR2
  have hpw := lt_of_blk h.blk
  have hgw := lt_of_blk h.tape.blk
  have hp1 : p ≠ w.heap.size := by omega
  have hp2 : w.heap.size ≠ p := by omega
  have P_6 : w.cell? ⟨p, 6, none⟩ = some (.bool br) := (cellAt h.blk 6).trans rfl
  have HLE0 := hid h
  have HLOG := hid (show Ty.At entryK w (fun j => S j ∧ j ≠ p ∧ j ≠ g ∧ v.ownBlock ≠ some j ∧ j < w.heap.size) A n c s.log from h.log.bound.mono (fun j hj => ⟨hj.1.1, hj.1.2.1, hj.1.2.2.1, hj.1.2.2.2, hj.2⟩))
  have HTL0 := hid (show ∀ j, v.ownBlock = some j → j < w.heap.size from fun j hj => own_lt h.tape.row j hj)
  clear h h2 hok hR2
  cases br
  case true =>
    go_enter Try.func13, Try.ntmps13
    go_wp2_with fail
    rw [← hw0]
    go_ret
    exact ⟨rfl, v, A, n, c, HLE.out.mono (fun _ _ h => .inl h), C0.out.mono (fun _ h _ => h.elim)⟩
  go_enter Try.func13, Try.ntmps13
  go_wp2_with fail
  rw [← hw0]
  clear hw0
  clear P_6
  have Q_1 : ∀ wx, Chg (fun _ => False) w0 wx → wx.cell? ⟨p, 1, none⟩ = some (.int .i64 s.view) := fun wx hx => (cellAt (hx.blk HLE.out.blk (fun h => h)) 1).trans rfl
  have Q_2 : ∀ wx, Chg (fun _ => False) w0 wx → wx.cell? ⟨p, 2, none⟩ = some (.int .i64 s.normal) := fun wx hx => (cellAt (hx.blk HLE.out.blk (fun h => h)) 2).trans rfl
  have Q_3 : ∀ wx, Chg (fun _ => False) w0 wx → wx.cell? ⟨p, 3, none⟩ = some (.int .i64 s.commit) := fun wx hx => (cellAt (hx.blk HLE.out.blk (fun h => h)) 3).trans rfl
  have Q_4 : ∀ wx, Chg (fun _ => False) w0 wx → wx.cell? ⟨p, 4, none⟩ = some (.int .i64 s.active) := fun wx hx => (cellAt (hx.blk HLE.out.blk (fun h => h)) 4).trans rfl
  have Q_5 : ∀ wx, Chg (fun _ => False) w0 wx → wx.cell? ⟨p, 5, none⟩ = some (.slice A n c) := fun wx hx => (cellAt (hx.blk HLE.out.blk (fun h => h)) 5).trans rfl
  have B_0 : ∀ wx, Chg (fun _ => False) w0 wx → wx.cell? ⟨w.heap.size, 0, none⟩ = some (.int .i64 s2.view) := fun wx hx => (cellAt (hx.blk BB.out (fun h => h)) 0).trans rfl
  have B_1 : ∀ wx, Chg (fun _ => False) w0 wx → wx.cell? ⟨w.heap.size, 1, none⟩ = some (.int .i64 s2.normal) := fun wx hx => (cellAt (hx.blk BB.out (fun h => h)) 1).trans rfl
  have B_2 : ∀ wx, Chg (fun _ => False) w0 wx → wx.cell? ⟨w.heap.size, 2, none⟩ = some (.int .i64 s2.commit) := fun wx hx => (cellAt (hx.blk BB.out (fun h => h)) 2).trans rfl
  have B_3 : ∀ wx, Chg (fun _ => False) w0 wx → wx.cell? ⟨w.heap.size, 3, none⟩ = some (.int .i64 s2.active) := fun wx hx => (cellAt (hx.blk BB.out (fun h => h)) 3).trans rfl
  have B_4 : ∀ wx, Chg (fun _ => False) w0 wx → wx.cell? ⟨w.heap.size, 4, none⟩ = some (.slice B k d) := fun wx hx => (cellAt (hx.blk BB.out (fun h => h)) 4).trans rfl
  refine wpB_start (fun wx : World => Chg (fun _ => False) w0 wx) (by kernel_rfl) ?_
  have hHeld : (fun wx : World => Chg (fun _ => False) w0 wx) _ := (by first | assumption | exact Chg.drew (Chg.refl _ _) | (show _ ∧ _; refine ⟨?_, ?_⟩ <;> assumption) | (first | assumption | (with_reducible exact HZ.out)))
  -- 0: t19 := move t0 : 26
  refine wpB_take (i := 0) (v := ?_) (get_of_drop rfl) (by kernel_rfl) (by kernel_rfl) (by kernel_rfl) (by kernel_rfl) (fun _ _ _ h => h) (Or.inl ⟨by rfl, ?_⟩) hHeld ?_
  rotate_left
  · (intro w hSw; (try dsimp only at hSw); go_simp <;> with_reducible rfl)
  try simp only [Act.put, List.setIfInBounds_toArray, List.set_cons_zero, List.set_cons_succ]
  -- 1: t20 := nilCheck t19 : 0
  refine wpB_take (i := 1) (v := ?_) (get_of_drop rfl) (by kernel_rfl) (by kernel_rfl) (by kernel_rfl) (by kernel_rfl) (fun _ _ _ h => h) (Or.inl ⟨by rfl, ?_⟩) hHeld ?_
  rotate_left
  · (intro w hSw; (try dsimp only at hSw); go_simp <;> with_reducible rfl)
  try simp only [Act.put, List.setIfInBounds_toArray, List.set_cons_zero, List.set_cons_succ]
  -- 2: t21 := fieldAddr 74 t20 1 : 0
  refine wpB_take (i := 2) (v := ?_) (get_of_drop rfl) (by kernel_rfl) (by kernel_rfl) (by kernel_rfl) (by kernel_rfl) (fun _ _ _ h => h) (Or.inl ⟨by rfl, ?_⟩) hHeld ?_
  rotate_left
  · (intro w hSw; (try dsimp only at hSw); go_simp <;> with_reducible rfl)
  try simp only [Act.put, List.setIfInBounds_toArray, List.set_cons_zero, List.set_cons_succ]
  -- 3: t22 := load 32 t21 : 32
  refine wpB_take (i := 3) (v := ?_) (get_of_drop rfl) (by kernel_rfl) (by kernel_rfl) (by kernel_rfl) (by kernel_rfl) (fun _ _ _ h => h) (Or.inl ⟨by rfl, ?_⟩) hHeld ?_
  rotate_left
  · (intro w hSw; (try dsimp only at hSw); go_simp <;> with_reducible rfl)
  try simp only [Act.put, List.setIfInBounds_toArray, List.set_cons_zero, List.set_cons_succ]
  -- 4: t23 := load 32 t3 : 32
  refine wpB_take (i := 4) (v := ?_) (get_of_drop rfl) (by kernel_rfl) (by kernel_rfl) (by kernel_rfl) (by kernel_rfl) (fun _ _ _ h => h) (Or.inl ⟨by rfl, ?_⟩) hHeld ?_
  rotate_left
  · (intro w hSw; (try dsimp only at hSw); go_simp <;> with_reducible rfl)
  try simp only [Act.put, List.setIfInBounds_toArray, List.set_cons_zero, List.set_cons_succ]
  -- 5: t24 := CALL fn35(t22, t23) : 83
  refine wpB_act (i := 5) (by kernel_rfl) (get_of_drop rfl) (fun K hK => ?_)
  go_simp
  refine (between_any (HLE.out.log.chg (Chg.refl (fun _ => False) w0).drew (fun _ _ h => h)) (HB.out.chg (Chg.refl (fun _ => False) w0).drew (fun _ _ h => h))).mono ?_
  rintro e w1 ⟨A9, N, c9, rfl, hat, h1⟩
  have HZ := hid (show Chg (fun _ => False) w0 w1 from (Chg.refl (fun _ => False) w0).drew.trans h1 (fun _ h _ => h))
  have HAT := hid hat
  clear hat h1
  refine hK.out _ _ ?_ (fun hHeld2 => ?_)
  · (first | assumption | (with_reducible exact HZ.out))
  clear hHeld hK K
  have hHeld := hHeld2
  clear hHeld2
  try simp only [Act.put, List.setIfInBounds_toArray, List.set_cons_zero, List.set_cons_succ]
  -- 6: t18 := move t24 : 83
  refine wpB_take (i := 6) (v := ?_) (get_of_drop rfl) (by kernel_rfl) (by kernel_rfl) (by kernel_rfl) (by kernel_rfl) (fun _ _ _ h => h) (Or.inl ⟨by rfl, ?_⟩) hHeld ?_
  rotate_left
  · (intro w hSw; (try dsimp only at hSw); go_simp <;> with_reducible rfl)
  try simp only [Act.put, List.setIfInBounds_toArray, List.set_cons_zero, List.set_cons_succ]
  -- 7: t25 := extract t18 0 : 82
  refine wpB_take (i := 7) (v := ?_) (get_of_drop rfl) (by kernel_rfl) (by kernel_rfl) (by kernel_rfl) (by kernel_rfl) (fun _ _ _ h => h) (Or.inl ⟨by rfl, ?_⟩) hHeld ?_
  rotate_left
  · (intro w hSw; (try dsimp only at hSw); go_simp <;> with_reducible rfl)
  try simp only [Act.put, List.setIfInBounds_toArray, List.set_cons_zero, List.set_cons_succ]
  -- 8: t26 := extract t18 1 : 27
  refine wpB_take (i := 8) (v := ?_) (get_of_drop rfl) (by kernel_rfl) (by kernel_rfl) (by kernel_rfl) (by kernel_rfl) (fun _ _ _ h => h) (Or.inl ⟨by rfl, ?_⟩) hHeld ?_
  rotate_left
  · (intro w hSw; (try dsimp only at hSw); go_simp <;> with_reducible rfl)
  try simp only [Act.put, List.setIfInBounds_toArray, List.set_cons_zero, List.set_cons_succ]
  -- 9: t5 := assign t25 : 82
  refine wpB_take (i := 9) (v := ?_) (get_of_drop rfl) (by kernel_rfl) (by kernel_rfl) (by kernel_rfl) (by kernel_rfl) (fun _ _ _ h => h) (Or.inl ⟨by rfl, ?_⟩) hHeld ?_
  rotate_left
  · (intro w hSw; (try dsimp only at hSw); go_simp <;> with_reducible rfl)
  try simp only [Act.put, List.setIfInBounds_toArray, List.set_cons_zero, List.set_cons_succ]
  -- 10: t6 := assign t26 : 27
  refine wpB_take (i := 10) (v := ?_) (get_of_drop rfl) (by kernel_rfl) (by kernel_rfl) (by kernel_rfl) (by kernel_rfl) (fun _ _ _ h => h) (Or.inl ⟨by rfl, ?_⟩) hHeld ?_
  rotate_left
  · (intro w hSw; (try dsimp only at hSw); go_simp <;> with_reducible rfl)
  try simp only [Act.put, List.setIfInBounds_toArray, List.set_cons_zero, List.set_cons_succ]
  refine wpB_done (by kernel_rfl) ?_ _
  clear hHeld Q_1 Q_2 Q_3 Q_4 Q_5 B_0 B_1 B_2 B_3 B_4
  have HLE1 := hid (HLE.out.chg HZ.out (fun _ _ h => h))
  have HTLT := hid (show ∀ j, (j = g ∨ v.ownBlock = some j) → j < w.heap.size from fun j hj => by
    rcases hj with e | e
    · omega
    · exact HTL0.out j e)
  obtain ⟨L, hL⟩ : ∃ x, x = (betweenS s s2).1 := ⟨_, rfl⟩
  obtain ⟨cd, hcd⟩ : ∃ x, x = (betweenS s s2).2 := ⟨_, rfl⟩
  rw [← hcd]
  rw [← hL] at HAT
  have HL := hid hL
  have HCD := hid hcd
  have HN := hid HAT.out.1
  have Z1 := hid (show w0.heap.size ≤ w1.heap.size ∧ w.heap.size < w0.heap.size from ⟨HZ.out.size, by have := SZ.out; omega⟩)
  have hNm : (N : Int) ≤ 9223372036854775807 := by have q1 := HAT.out.2.1; have q2 := HAT.out.2.2.1; simp [maxLen] at q2; omega
  clear hL hcd
  by_cases hc : cd = 0
  case neg =>
    have hc1 : (cd != 0) = true := by simp [hc]
    have G := hid (show saveT t s false s2 = (t, s, false, cd) by unfold saveT; rw [if_neg (by decide), if_pos (.inl (by rw [← HCD.out]; exact hc)), ← HCD.out])
    clear hc
    go_wp2_with fail
    go_ret
    exact ⟨by rw [G.out]; rfl, v, A, n, c, by rw [G.out]; exact HLE1.out.mono (fun _ _ h => .inl h), (C0.out.trans HZ.out (fun _ h _ => h)).mono (fun _ h _ => h.elim)⟩
  subst hc
  have HBO := hid (between_ok HCD.out.symm)
  by_cases hN0 : N = 0
  case pos =>
    subst hN0
    have G := hid (show saveT t s false s2 = (t, s, false, 0) by unfold saveT; rw [if_neg (by decide), if_pos (.inr (by rw [← HL.out]; exact List.eq_nil_of_length_eq_zero HN.out.symm)), ← HCD.out])
    go_wp2_with fail
    go_ret
    exact ⟨by rw [G.out]; rfl, v, A, n, c, by rw [G.out]; exact HLE1.out.mono (fun _ _ h => .inl h), (C0.out.trans HZ.out (fun _ h _ => h)).mono (fun _ h _ => h.elim)⟩
  have hN1 : ((N : Int) == 0) = false := by simp; omega
  have GNE := hid (show ¬ ((betweenS s s2).2 ≠ 0 ∨ (betweenS s s2).1 = []) by
    rintro (h | h)
    · exact h HCD.out.symm
    · rw [← HL.out] at h
      have := HN.out
      rw [h] at this
      exact hN0 this)
  have HRR := hid (show ∀ r ∈ L, recR r = true by rw [HL.out, HBO.out.2.2.1]; exact recordsS_right HBO.out.1 HBO.out.2.1)
  have HN70 := hid (show N ≤ 70 by
    rw [HN.out, HL.out, HBO.out.2.2.1]
    exact recordsS_few HBO.out.2.1)
  clear hN0
  go_wp2_with fail
  go_loopw [7, 37] (fun v7 i wr => ∃ q : Nat, q ≤ N ∧ i = .int .i64 q ∧ BytesAt w1 wr v7 (framesB (L.take q))) (fun _ i _ => N - (intOf i).toNat)
  case atStart => exact ⟨0, Nat.zero_le _, rfl, ⟨none, 0, rfl⟩, Byt.nil _ _, Chg.refl _ _⟩
  case round =>
    obtain ⟨q, hq, rfl, hby⟩ := hrel
    obtain ⟨A7, c7, hv7⟩ := hby.1
    have HC := hid hby.2.2
    have HBY := hid hby.2.1
    clear hby
    obtain ⟨nq, hnq⟩ : ∃ x, x = (framesB (L.take q)).length := ⟨_, rfl⟩
    rw [← hnq] at hv7
    have HNQ := hid hnq
    have hnqb : nq ≤ 500000 := by
      have h1 := framesB_most (l := L.take q) (fun r hr => HRR.out r (List.mem_of_mem_take hr))
      have h2 : (L.take q).length ≤ 70 := by rw [List.length_take]; have := HN70.out; have := HN.out; omega
      rw [← hnq] at h1
      have h3 : 6110 * (L.take q).length ≤ 6110 * 70 := Nat.mul_le_mul_left _ h2
      omega
    subst hv7
    clear hnq
    by_cases hlt : q < N
    · have hlt2 : (q : Int) < (N : Int) := by omega
      obtain ⟨r, hr⟩ : ∃ r, L[q]? = some r := ⟨_, List.getElem?_eq_getElem (by have := HN.out; omega)⟩
      have HRQ := hid hr
      have HTK := hid (show framesB (L.take (q + 1)) = framesB (L.take q) ++ FrameP.frame (recB r) by rw [List.take_add_one, hr]; exact framesB_snoc _ _)
      have HRB := hid (HRR.out r (List.mem_of_getElem? hr))
      obtain ⟨a', cs, ha, haR, hK, hcs⟩ := (HAT.out.chg HC.out (fun _ _ h => h)).get (by decide) hr
      obtain ⟨E1, m1, d1, rfl, hrw⟩ := rec_open_l hK
      have HRW := hid hrw
      subst ha
      have hcs2 : ∀ j u, [Value.int .i64 r.kind, .int .i64 r.a, .int .i64 r.b, .slice E1 m1 d1][j]? = some u → wr.cell? (a'.add (q * 4 + j)) = some u := fun j u hj => hcs j u hj
      have x0 := elem_cell0 hcs2 _ rfl
      have x1 := elem_cell hcs2 0 _ rfl
      have x2 := elem_cell hcs2 1 _ rfl
      have x3 := elem_cell hcs2 2 _ rfl
      clear hcs hcs2 hK hr haR hrw
      obtain ⟨W1, hW1⟩ : ∃ W1, W1 = wr.alloc (.cells #[.int .i64 r.kind, .int .i64 r.a, .int .i64 r.b, .slice E1 m1 d1] 62) := ⟨_, rfl⟩
      have C5 := hid (show Chg (fun _ => False) wr W1 by rw [hW1]; exact (Chg.refl _ wr).alloc _)
      go_wp2_with fail
      rw [← hW1]
      clear hW1 x0 x1 x2 x3
      refine (encoderec_any (HRW.out.chg C5.out (fun _ _ h => h))).mono ?_
      rintro e w5 ⟨h5, hd⟩
      have C6 := hid (C5.out.trans h5 (fun _ h _ => h))
      have hmost := recB_most_ HRB.out
      rcases hd with ⟨hn, _⟩ | ⟨_, hn, _⟩ | ⟨_, _, A5, c5, rfl, hby5⟩
      · rw [HRB.out] at hn; cases hn
      · omega
      obtain ⟨m5, hm5⟩ : ∃ x, x = (recB r).length := ⟨_, rfl⟩
      rw [← hm5] at hby5 hmost ⊢
      have HM5 := hid hm5
      have HB5 := hid (show Ty.At Ty.u8 w5 (fun k => W1.heap.size ≤ k) A5 m5 c5 (recB r) from (Fr.own_At hby5.row hm5.symm).mono (fun k hk => hby5.rowS k hk))
      clear hm5 hby5 h5
      go_wp2_with fail
      refine (Fr.make_any _ _ _ _ _ _ HB5.out (by omega)).mono ?_
      rintro e w6 ⟨A6, c6, rfl, hmd⟩
      obtain ⟨hrow, hc6, hnew⟩ := hmd
      have C7 := hid (C6.out.trans hc6 (fun _ h _ => h))
      have HFL := hid (show (FrameP.frame (recB r)).length = 10 + m5 by rw [FrameP.frame_length, HM5.out])
      have HROW := hid (own_at (show w6.ownsRow 0 5 1 (.slice A6 (10 + m5) c6) (10 + m5) (u8s (FrameP.frame (recB r))) by rw [HFL.out] at hrow; exact hrow))
      have HBW := hid (HBY.out.chg C7.out (fun _ _ h => h))
      clear hrow hc6 hnew
      go_wp2_with (first | ((with_reducible refine at_dst (N := 53) rfl ?_); refine app_list _ rfl (.tmp 51) (.tmp 52) 36 5 (.int .u8 0) 1 1 rfl Try.underlying36 Fr.info5 rfl (by decide) (by decide) (.slice A7 nq c7) nq (u8s (framesB (L.take q))) rfl (by rw [HNQ.out]; exact (HNQ.out ▸ HBW.out.row)) A6 (10 + m5) c6 (u8s (FrameP.frame (recB r))) _ rfl HROW.out.2.2.1 HROW.out.1 (by rw [u8s_length, HFL.out, Nat.mul_one]) HROW.out.2.2.2 (u8s_one _) (by omega) ?_; rw [← u8s_append, ← HTK.out]; intro A8 c8 w7 h1 h2 h3; have K1 := hid h1; have K2 := hid h2; have K3 := hid h3; clear h1 h2 h3))
      have hN2 : nq + (10 + m5) = (framesB (L.take (q + 1))).length := by rw [HTK.out, List.length_append, HFL.out, HNQ.out]
      have KB := hid (show BytesAt w1 w7 (.slice A8 (nq + (10 + m5)) c8) (framesB (L.take (q + 1))) from ⟨⟨A8, c8, by rw [hN2]⟩, ⟨by rw [← hN2]; exact K1.out, fun j hj => by
        rcases K3.out j hj with h | h
        · exact HBY.out.rowS j h
        · have h1 := HC.out.size
          have h2 := C7.out.size
          omega⟩, (HC.out.trans C7.out (fun _ h _ => h)).trans K2.out (fun j hj hl => by have h1 := HBY.out.rowS j hj; omega)⟩)
      clear hN2
      go_roundw
      case measure => simp [intOf]; omega
      case rel => first | exact ⟨q + 1, hlt, by go_num, KB.out⟩ | ((repeat apply Exists.intro); exact ⟨⟨q + 1, hlt, by go_num, KB.out⟩, rfl⟩)
    have hqn : ¬ (q : Int) < (N : Int) := by omega
    obtain rfl : q = N := by omega
    have HALL := hid (show L.take q = L from List.take_of_length_le (by have := HN.out; omega))
    rw [HALL.out] at HNQ HBY
    have HLE2 := hid (HLE1.out.chg HC.out (fun _ _ h => h))
    have HTB := hid (own_at (show wr.ownsRow 0 5 1 (.slice A7 nq c7) nq (u8s (framesB L)) by rw [HNQ.out]; exact (HNQ.out ▸ HBY.out.row)))
    have PB := hid HLE2.out.blk
    have P_0 : wr.cell? ⟨p, 0, none⟩ = some (.pointer (some ⟨g, 0, none⟩)) := (cellAt PB.out 0).trans rfl
    have F_0 : wr.frozen? ⟨p, 0, none⟩ = false := freeAt PB.out 0
    have P_1 : wr.cell? ⟨p, 1, none⟩ = some (.int .i64 s.view) := (cellAt PB.out 1).trans rfl
    have F_1 : wr.frozen? ⟨p, 1, none⟩ = false := freeAt PB.out 1
    have P_2 : wr.cell? ⟨p, 2, none⟩ = some (.int .i64 s.normal) := (cellAt PB.out 2).trans rfl
    have F_2 : wr.frozen? ⟨p, 2, none⟩ = false := freeAt PB.out 2
    have P_3 : wr.cell? ⟨p, 3, none⟩ = some (.int .i64 s.commit) := (cellAt PB.out 3).trans rfl
    have F_3 : wr.frozen? ⟨p, 3, none⟩ = false := freeAt PB.out 3
    have P_4 : wr.cell? ⟨p, 4, none⟩ = some (.int .i64 s.active) := (cellAt PB.out 4).trans rfl
    have F_4 : wr.frozen? ⟨p, 4, none⟩ = false := freeAt PB.out 4
    have P_5 : wr.cell? ⟨p, 5, none⟩ = some (.slice A n c) := (cellAt PB.out 5).trans rfl
    have F_5 : wr.frozen? ⟨p, 5, none⟩ = false := freeAt PB.out 5
    have P_6 : wr.cell? ⟨p, 6, none⟩ = some (.bool false) := (cellAt PB.out 6).trans rfl
    have F_6 : wr.frozen? ⟨p, 6, none⟩ = false := freeAt PB.out 6
    go_wp2_with fail
    refine (T.append_any _ _ g v t A7 nq c7 (framesB L) wr HLE2.out.tape HOK.out HTB.out.2.2.1 HNQ.out HTB.out.1 HTB.out.2.2.2 (fun j hj hj2 => by have h1 := HBY.out.rowS j hj; have h2 := HTLT.out j hj2; have h3 := Z1.out; omega)).mono ?_
    rintro e w8 ⟨rfl, v8, ht8, hc8⟩
    clear P_0 F_0 P_1 F_1 P_2 F_2 P_3 F_3 P_4 F_4 P_5 F_5 P_6 F_6
    have HT8 := hid ht8
    have HC8 := hid hc8
    obtain ⟨t8, h8⟩ : ∃ x, x = (t.append (framesB L)).1 := ⟨_, rfl⟩
    obtain ⟨d8, hd8⟩ : ∃ x, x = (t.append (framesB L)).2 := ⟨_, rfl⟩
    rw [← hd8]
    rw [← h8] at HT8
    have HT8E := hid h8
    have HD8 := hid hd8
    have HOK8 := hid (show t8.Ok by rw [h8]; exact T.TS.append_ok HOK.out _)
    have ZR := hid (show w.heap.size ≤ wr.heap.size ∧ wr.heap.size ≤ w8.heap.size from ⟨by have h1 := Z1.out; have h2 := HC.out.size; omega, hc8.size⟩)
    replace PB := hid (hc8.blk PB.out (fun h => (HLE2.out.tapeS p h).2 rfl))
    have CW8 := hid (show Chg S w w8 from (((C0.out.trans HZ.out (fun _ h _ => h)).trans HC.out (fun _ h _ => h)).mono (fun _ h _ => h.elim)).trans hc8 (fun j hj _ => (HLE2.out.tapeS j hj).1))
    have HLOG8 := hid (show Ty.At entryK w8 (fun j => S j ∧ j ≠ p ∧ j ≠ g ∧ v.ownBlock ≠ some j ∧ j < w.heap.size) A n c s.log from (((HLOG.out.chg C0.out (fun _ _ h => h)).chg HZ.out (fun _ _ h => h)).chg HC.out (fun _ _ h => h)).chg hc8 (fun j hj h => by rcases h with h | h; exact hj.2.2.1 h; exact hj.2.2.2.1 h))
    clear ht8 hc8 h8 hd8
    have P_0 : w8.cell? ⟨p, 0, none⟩ = some (.pointer (some ⟨g, 0, none⟩)) := (cellAt PB.out 0).trans rfl
    have F_0 : w8.frozen? ⟨p, 0, none⟩ = false := freeAt PB.out 0
    have P_1 : w8.cell? ⟨p, 1, none⟩ = some (.int .i64 s.view) := (cellAt PB.out 1).trans rfl
    have F_1 : w8.frozen? ⟨p, 1, none⟩ = false := freeAt PB.out 1
    have P_2 : w8.cell? ⟨p, 2, none⟩ = some (.int .i64 s.normal) := (cellAt PB.out 2).trans rfl
    have F_2 : w8.frozen? ⟨p, 2, none⟩ = false := freeAt PB.out 2
    have P_3 : w8.cell? ⟨p, 3, none⟩ = some (.int .i64 s.commit) := (cellAt PB.out 3).trans rfl
    have F_3 : w8.frozen? ⟨p, 3, none⟩ = false := freeAt PB.out 3
    have P_4 : w8.cell? ⟨p, 4, none⟩ = some (.int .i64 s.active) := (cellAt PB.out 4).trans rfl
    have F_4 : w8.frozen? ⟨p, 4, none⟩ = false := freeAt PB.out 4
    have P_5 : w8.cell? ⟨p, 5, none⟩ = some (.slice A n c) := (cellAt PB.out 5).trans rfl
    have F_5 : w8.frozen? ⟨p, 5, none⟩ = false := freeAt PB.out 5
    have P_6 : w8.cell? ⟨p, 6, none⟩ = some (.bool false) := (cellAt PB.out 6).trans rfl
    have F_6 : w8.frozen? ⟨p, 6, none⟩ = false := freeAt PB.out 6
    have hgt := hgw
    by_cases hz8 : d8 = 0
    case neg =>
      have hz1 : (d8 == 0) = false := by simp [hz8]
      have hz2 : (d8 != 0) = true := by simp [hz8]
      have G := hid (show saveT t s false s2 = (t8, s, true, d8) by
        unfold saveT
        rw [if_neg (by decide), if_neg GNE.out, ← HL.out, ← HD8.out, if_pos hz8, ← HT8E.out])
      clear hz8
      go_wp2_with fail
      go_ret
      have hB := blk_set PB.out 6 (.bool true)
      have hC := (Chg.refl (fun j => j = p) w8).set (p := ⟨p, 6, none⟩) (fun _ => rfl) (.bool true)
      refine ⟨by rw [G.out]; rfl, v8, A, n, c, ?_, CW8.out.trans hC (fun j e _ => by rw [e]; exact HLE2.out.inS)⟩
      rw [G.out]
      exact led_put HLE0.out hB (((HT8.out.mono (fun j _ hj => hj)).chg hC (fun j hj e => by subst e; rcases hj with h | h; exact (HLE2.out.tapeS j h).2 rfl; have := ZR.out; omega)).mono (fun j _ hj => by rcases hj with h | h; exact .inl h; exact .inr (by have := ZR.out; omega))) ((HLOG8.out.chg hC (fun j hj e => hj.2.1 e)).mono (fun j hj => ⟨.inl hj, fun e => by
        rcases HT8.out.rowS j e with h | h
        · rcases h with h | h
          · exact hj.2.2.1 h
          · exact hj.2.2.2.1 h
        · have h1 := hj.2.2.2.2; have h2 := ZR.out; omega⟩)) HLE2.out.right
    subst hz8
    go_wp2_with fail
    refine (T.sync_any _ g v8 t8 w8 HT8.out HOK8.out).mono ?_
    rintro e w9 ⟨rfl, ht9, hc9⟩
    clear P_0 F_0 P_1 F_1 P_2 F_2 P_3 F_3 P_4 F_4 P_5 F_5 P_6 F_6
    have HT9 := hid ht9
    obtain ⟨t9, h9⟩ : ∃ x, x = t8.sync.1 := ⟨_, rfl⟩
    obtain ⟨d9, hd9⟩ : ∃ x, x = t8.sync.2 := ⟨_, rfl⟩
    rw [← hd9]
    rw [← h9] at HT9
    have HT9E := hid h9
    have HD9 := hid hd9
    have ZR9 := hid (show w.heap.size ≤ w8.heap.size ∧ w8.heap.size ≤ w9.heap.size from ⟨by have h1 := ZR.out; omega, hc9.size⟩)
    replace PB := hid (hc9.blk PB.out (fun h => by rcases h with h | h; exact (HLE2.out.tapeS p h).2 rfl; have := ZR.out; omega))
    replace BB := hid (show w9.heap[w.heap.size]? = _ from hc9.blk (HC8.out.blk (HC.out.blk (HZ.out.blk BB.out (fun h => h)) (fun h => h)) (fun h => by have := HTLT.out _ h; omega)) (fun h => by rcases h with h | h; have := HTLT.out _ h; omega; have h1 := ZR.out; have h2 := Z1.out; have h3 := HC.out.size; omega))
    have CW9 := hid (show Chg S w w9 from CW8.out.trans hc9 (fun j hj hl => by rcases hj with h | h; exact (HLE2.out.tapeS j h).1; have := ZR.out; omega))
    have HLOG9 := hid (HLOG8.out.chg hc9 (fun j hj h => by
      rcases h with h | h
      · rcases h with h | h
        · exact hj.2.2.1 h
        · exact hj.2.2.2.1 h
      · have h1 := hj.2.2.2.2; have h2 := ZR.out; omega))
    have HB9 := hid (show Ty.At entryK w9 (fun j => R2 j ∧ j < w.heap.size) B k d s2.log from ((((HB.out.chg HZ.out (fun _ _ h => h)).chg HC.out (fun _ _ h => h)).chg HC8.out (fun j hj h => HR2.out j hj.1 (HLE0.out.tapeS j h).1)).chg hc9 (fun j hj h => by rcases h with h | h; exact HR2.out j hj.1 (HLE0.out.tapeS j h).1; have h1 := hj.2; have h2 := ZR.out; omega)))
    clear ht9 hc9 h9 hd9
    have P_0 : w9.cell? ⟨p, 0, none⟩ = some (.pointer (some ⟨g, 0, none⟩)) := (cellAt PB.out 0).trans rfl
    have F_0 : w9.frozen? ⟨p, 0, none⟩ = false := freeAt PB.out 0
    have P_1 : w9.cell? ⟨p, 1, none⟩ = some (.int .i64 s.view) := (cellAt PB.out 1).trans rfl
    have F_1 : w9.frozen? ⟨p, 1, none⟩ = false := freeAt PB.out 1
    have P_2 : w9.cell? ⟨p, 2, none⟩ = some (.int .i64 s.normal) := (cellAt PB.out 2).trans rfl
    have F_2 : w9.frozen? ⟨p, 2, none⟩ = false := freeAt PB.out 2
    have P_3 : w9.cell? ⟨p, 3, none⟩ = some (.int .i64 s.commit) := (cellAt PB.out 3).trans rfl
    have F_3 : w9.frozen? ⟨p, 3, none⟩ = false := freeAt PB.out 3
    have P_4 : w9.cell? ⟨p, 4, none⟩ = some (.int .i64 s.active) := (cellAt PB.out 4).trans rfl
    have F_4 : w9.frozen? ⟨p, 4, none⟩ = false := freeAt PB.out 4
    have P_5 : w9.cell? ⟨p, 5, none⟩ = some (.slice A n c) := (cellAt PB.out 5).trans rfl
    have F_5 : w9.frozen? ⟨p, 5, none⟩ = false := freeAt PB.out 5
    have P_6 : w9.cell? ⟨p, 6, none⟩ = some (.bool false) := (cellAt PB.out 6).trans rfl
    have F_6 : w9.frozen? ⟨p, 6, none⟩ = false := freeAt PB.out 6
    have B_0 : w9.cell? ⟨w.heap.size, 0, none⟩ = some (.int .i64 s2.view) := (cellAt BB.out 0).trans rfl
    have B_1 : w9.cell? ⟨w.heap.size, 1, none⟩ = some (.int .i64 s2.normal) := (cellAt BB.out 1).trans rfl
    have B_2 : w9.cell? ⟨w.heap.size, 2, none⟩ = some (.int .i64 s2.commit) := (cellAt BB.out 2).trans rfl
    have B_3 : w9.cell? ⟨w.heap.size, 3, none⟩ = some (.int .i64 s2.active) := (cellAt BB.out 3).trans rfl
    have B_4 : w9.cell? ⟨w.heap.size, 4, none⟩ = some (.slice B k d) := (cellAt BB.out 4).trans rfl
    by_cases hz9 : d9 = 0
    case neg =>
      have hz1 : (d9 == 0) = false := by simp [hz9]
      have hz2 : (d9 != 0) = true := by simp [hz9]
      have G := hid (show saveT t s false s2 = (t9, s, true, d9) by
        unfold saveT
        rw [if_neg (by decide), if_neg GNE.out, ← HL.out, ← HD8.out, if_neg (by simp), ← HT8E.out, ← HD9.out, if_pos hz9, ← HT9E.out])
      clear hz9
      go_wp2_with fail
      go_ret
      have hB := blk_set PB.out 6 (.bool true)
      have hC := (Chg.refl (fun j => j = p) w9).set (p := ⟨p, 6, none⟩) (fun _ => rfl) (.bool true)
      refine ⟨by rw [G.out]; rfl, v8, A, n, c, ?_, CW9.out.trans hC (fun j e _ => by rw [e]; exact HLE2.out.inS)⟩
      rw [G.out]
      exact led_put HLE0.out hB ((HT9.out.chg hC (fun j hj e => by subst e; rcases hj with h | h; exact (HLE2.out.tapeS j h).2 rfl; have := ZR.out; omega)).mono (fun j _ hj => by rcases hj with h | h; exact .inl h; exact .inr (by have := ZR.out; omega))) ((HLOG9.out.chg hC (fun j hj e => hj.2.1 e)).mono (fun j hj => ⟨.inl hj, fun e => by
        rcases HT9.out.rowS j e with h | h
        · rcases h with h | h
          · exact hj.2.2.1 h
          · exact hj.2.2.2.1 h
        · have h1 := hj.2.2.2.2; have h2 := ZR.out; omega⟩)) HLE2.out.right
    subst hz9
    have G := hid (show saveT t s false s2 = (t9, s2, false, 0) by
      unfold saveT
      rw [if_neg (by decide), if_neg GNE.out, ← HL.out, ← HD8.out, if_neg (by simp), ← HT8E.out, ← HD9.out, if_neg (by simp), ← HT9E.out])
    go_wp2_with fail
    obtain ⟨W9, hW9⟩ : ∃ W, W = ((((((w9.setCell ⟨p, 6, none⟩ (.bool false)).setCell ⟨p, 1, none⟩ (.int .i64 s2.view)).setCell ⟨p, 2, none⟩ (.int .i64 s2.normal)).setCell ⟨p, 3, none⟩ (.int .i64 s2.commit)).setCell ⟨p, 4, none⟩ (.int .i64 s2.active)).setCell ⟨p, 5, none⟩ (.slice B k d)) := ⟨_, rfl⟩
    have PW := hid (show W9.heap[p]? = some (.cells (stRow [.pointer (some ⟨g, 0, none⟩)] [.bool false] s2 B k d) 74 (0, 0)) by
      rw [hW9]
      exact blk_set (blk_set (blk_set (blk_set (blk_set (blk_set PB.out 6 (.bool false)) 1 (.int .i64 s2.view)) 2 (.int .i64 s2.normal)) 3 (.int .i64 s2.commit)) 4 (.int .i64 s2.active)) 5 (.slice B k d))
    have D9 := hid (show Chg (fun j => j = p) w9 W9 by
      rw [hW9]
      exact ((((((Chg.refl (fun j => j = p) w9).set (p := ⟨p, 6, none⟩) (fun _ => rfl) _).set (p := ⟨p, 1, none⟩) (fun _ => rfl) _).set (p := ⟨p, 2, none⟩) (fun _ => rfl) _).set (p := ⟨p, 3, none⟩) (fun _ => rfl) _).set (p := ⟨p, 4, none⟩) (fun _ => rfl) _).set (p := ⟨p, 5, none⟩) (fun _ => rfl) _)
    rw [← hW9]
    clear hW9 B_0 B_1 B_2 B_3 B_4
    clear P_0 F_0 P_1 F_1 P_2 F_2 P_3 F_3 P_4 F_4 P_5 F_5 P_6 F_6
    refine (copied_any (HB9.out.chg D9.out (fun j hj e => HR2.out j hj.1 (by rw [e]; exact HLE0.out.inS))) (by have h1 := (stR_iff.1 HBO.out.2.1).1; have h2 := HB.out.1; omega) (fits_right (stR_iff.1 HBO.out.2.1).2)).mono ?_
    rintro e w10 ⟨A10, c10, rfl, hat, h10⟩
    have H10 := hid hat
    have C10 := hid h10
    replace PW := hid (h10.blk PW.out (fun h => h))
    clear hat h10
    have P_5 : w10.cell? ⟨p, 5, none⟩ = some (.slice B k d) := (cellAt PW.out 5).trans rfl
    have F_5 : w10.frozen? ⟨p, 5, none⟩ = false := freeAt PW.out 5
    go_wp2_with fail
    go_ret
    have hB := blk_set PW.out 5 (.slice A10 k c10)
    have hC := (Chg.refl (fun j => j = p) w10).set (p := ⟨p, 5, none⟩) (fun _ => rfl) (.slice A10 k c10)
    have CWE := hid (show Chg (fun j => j = p) w9 w10 from D9.out.trans (C10.out.mono (fun _ h _ => h.elim)) (fun _ h _ => h))
    refine ⟨by rw [G.out]; rfl, v8, A10, k, c10, ?_, (CW9.out.trans CWE.out (fun j e _ => by rw [e]; exact HLE0.out.inS)).trans hC (fun j e _ => by rw [e]; exact HLE0.out.inS)⟩
    rw [G.out]
    have z1 := ZR9.out
    have z2 := D9.out.size
    refine led_put HLE0.out hB (((HT9.out.chg CWE.out (fun j hj e => ?_)).chg hC (fun j hj e => ?_)).mono (fun j _ hj => by rcases hj with h | h; exact .inl h; exact .inr (by have := ZR.out; omega))) ((H10.out.chg hC (fun j hj e => ?_)).mono (fun j hj => ⟨.inr (by have := hj.1; omega), fun e => ?_⟩)) HBO.out.2.1
    · subst e; rcases hj with h | h; exact (HLE2.out.tapeS j h).2 rfl; have := ZR.out; omega
    · subst e; rcases hj with h | h; exact (HLE2.out.tapeS j h).2 rfl; have := ZR.out; omega
    · subst e; have := hj.1; omega
    · have h1 := own_lt HT9.out.row j e
      have h2 := hj.1
      omega
end Go.Proofs.Ytfpjickdkkhndaa.Pa


/- The contracts of the document's Same and Apply. -/

namespace Go.Proofs.Ytfpjickdkkhndaa.Pa

set_option linter.unusedVariables false

set_option linter.unusedSimpArgs false

open Go.RowKit Go.Proofs.Ytfpjickdkkhndaa.C

attribute [local go_sem] max2_int min2_int max_two min_two

set_option maxHeartbeats 4000000 in
set_option maxRecDepth 100000 in
theorem refstsame_any {w : World} {R R2 : Nat → Prop} {a b : St} {A : Option Addr} {n c : Nat} {B : Option Addr} {k d : Nat} (hl : Ty.At entryK w R A n c a.log) (hr : Ty.At entryK w R2 B k d b.log) :
    Calls Try.prog 18 #[.agg #[.int .i64 a.view, .int .i64 a.normal, .int .i64 a.commit, .int .i64 a.active, .slice A n c], .agg #[.int .i64 b.view, .int .i64 b.normal, .int .i64 b.commit, .int .i64 b.active, .slice B k d]] w fun e w' => e = .returned (.bool (decide (a = b))) ∧ Chg (fun _ => False) w w' := by
  obtain ⟨b2, hb2⟩ : ∃ x, x = w.heap.size + 1 := ⟨_, rfl⟩
  obtain ⟨w0, hw0⟩ : ∃ x, x = ((w.alloc (.cells #[.int .i64 a.view, .int .i64 a.normal, .int .i64 a.commit, .int .i64 a.active, .slice A n c] 41)).alloc (.cells #[.int .i64 b.view, .int .i64 b.normal, .int .i64 b.commit, .int .i64 b.active, .slice B k d] 41)) := ⟨_, rfl⟩
  have C0 := hid (show Chg (fun _ => False) w w0 by rw [hw0]; exact ((Chg.refl _ w).alloc _).alloc _)
  have BA := hid (show w0.heap[w.heap.size]? = some (.cells #[.int .i64 a.view, .int .i64 a.normal, .int .i64 a.commit, .int .i64 a.active, .slice A n c] 41 (0, 0)) by
    rw [hw0]
    refine blk_alloc ?_ _
    have := blk_new w (.cells #[.int .i64 a.view, .int .i64 a.normal, .int .i64 a.commit, .int .i64 a.active, .slice A n c] 41)
    simpa using this)
  have BB := hid (show w0.heap[b2]? = some (.cells #[.int .i64 b.view, .int .i64 b.normal, .int .i64 b.commit, .int .i64 b.active, .slice B k d] 41 (0, 0)) by
    rw [hw0, hb2]
    have := blk_new (w.alloc (.cells #[.int .i64 a.view, .int .i64 a.normal, .int .i64 a.commit, .int .i64 a.active, .slice A n c] 41)) (.cells #[.int .i64 b.view, .int .i64 b.normal, .int .i64 b.commit, .int .i64 b.active, .slice B k d] 41)
    simpa using this)
  have ne01 : w.heap.size ≠ b2 := by omega
  have ne10 : b2 ≠ w.heap.size := by omega
  have Hb2 := hid hb2
  have ltb2 : w.heap.size < b2 := by omega
  have SZ := hid (show w0.heap.size = w.heap.size + 2 by rw [hw0]; simp)
  have HL := hid (hl.bound.chg C0.out (fun _ _ h => h))
  have HR := hid (hr.bound.chg C0.out (fun _ _ h => h))
  clear hl hr
  by_cases e_view : a.view = b.view
  case neg =>
    have e1 : (a.view == b.view) = false := by simp [e_view]
    have G := hid (show decide (a = b) = false from decide_eq_false (fun h => e_view (by rw [h])))
    clear e_view
    go_enter Try.func18, Try.ntmps18
    go_wp2_with fail
    rw [← hb2, ← hw0]
    go_ret
    exact ⟨by rw [G.out]; rfl, C0.out⟩
  have HE_view := hid e_view
  have q_view : (a.view == b.view) = true := by simp [e_view]
  clear e_view
  by_cases e_normal : a.normal = b.normal
  case neg =>
    have e1 : (a.normal == b.normal) = false := by simp [e_normal]
    have G := hid (show decide (a = b) = false from decide_eq_false (fun h => e_normal (by rw [h])))
    clear e_normal
    go_enter Try.func18, Try.ntmps18
    go_wp2_with fail
    rw [← hb2, ← hw0]
    go_ret
    exact ⟨by rw [G.out]; rfl, C0.out⟩
  have HE_normal := hid e_normal
  have q_normal : (a.normal == b.normal) = true := by simp [e_normal]
  clear e_normal
  by_cases e_commit : a.commit = b.commit
  case neg =>
    have e1 : (a.commit == b.commit) = false := by simp [e_commit]
    have G := hid (show decide (a = b) = false from decide_eq_false (fun h => e_commit (by rw [h])))
    clear e_commit
    go_enter Try.func18, Try.ntmps18
    go_wp2_with fail
    rw [← hb2, ← hw0]
    go_ret
    exact ⟨by rw [G.out]; rfl, C0.out⟩
  have HE_commit := hid e_commit
  have q_commit : (a.commit == b.commit) = true := by simp [e_commit]
  clear e_commit
  by_cases e_active : a.active = b.active
  case neg =>
    have e1 : (a.active == b.active) = false := by simp [e_active]
    have G := hid (show decide (a = b) = false from decide_eq_false (fun h => e_active (by rw [h])))
    clear e_active
    go_enter Try.func18, Try.ntmps18
    go_wp2_with fail
    rw [← hb2, ← hw0]
    go_ret
    exact ⟨by rw [G.out]; rfl, C0.out⟩
  have HE_active := hid e_active
  have q_active : (a.active == b.active) = true := by simp [e_active]
  clear e_active
  go_enter Try.func18, Try.ntmps18
  go_wp2_with fail
  rw [← hb2, ← hw0]
  clear hw0 hb2
  have A_0 : w0.cell? ⟨w.heap.size, 0, none⟩ = some (.int .i64 a.view) := (cellAt BA.out 0).trans rfl
  have A_1 : w0.cell? ⟨w.heap.size, 1, none⟩ = some (.int .i64 a.normal) := (cellAt BA.out 1).trans rfl
  have A_2 : w0.cell? ⟨w.heap.size, 2, none⟩ = some (.int .i64 a.commit) := (cellAt BA.out 2).trans rfl
  have A_3 : w0.cell? ⟨w.heap.size, 3, none⟩ = some (.int .i64 a.active) := (cellAt BA.out 3).trans rfl
  have A_4 : w0.cell? ⟨w.heap.size, 4, none⟩ = some (.slice A n c) := (cellAt BA.out 4).trans rfl
  have B_0 : w0.cell? ⟨b2, 0, none⟩ = some (.int .i64 b.view) := (cellAt BB.out 0).trans rfl
  have B_1 : w0.cell? ⟨b2, 1, none⟩ = some (.int .i64 b.normal) := (cellAt BB.out 1).trans rfl
  have B_2 : w0.cell? ⟨b2, 2, none⟩ = some (.int .i64 b.commit) := (cellAt BB.out 2).trans rfl
  have B_3 : w0.cell? ⟨b2, 3, none⟩ = some (.int .i64 b.active) := (cellAt BB.out 3).trans rfl
  have B_4 : w0.cell? ⟨b2, 4, none⟩ = some (.slice B k d) := (cellAt BB.out 4).trans rfl
  refine (refSame_any HL.out HR.out).mono ?_
  rintro e w1 ⟨rfl, h1⟩
  have C1 := hid (C0.out.trans h1 (fun _ h _ => h))
  clear h1
  have G := hid (show decide (a = b) = decide (a.log = b.log) by
    by_cases e : a.log = b.log
    · rw [decide_eq_true e, decide_eq_true]
      have h1 := HE_view.out
      have h2 := HE_normal.out
      have h3 := HE_commit.out
      have h4 := HE_active.out
      cases a
      cases b
      simp only at *
      rw [h1, h2, h3, h4, e]
    · rw [decide_eq_false e, decide_eq_false (fun h => e (by rw [h]))])
  go_wp2_with fail
  go_ret
  exact ⟨by rw [G.out]; rfl, C1.out⟩
/-- What the document's Apply answers, of a right state and a right record. -/
def refApplyP (s : St) (r : Rec) : St × Int := match applyS s r with | some t => (t, 0) | none => (st0, 54)
def RefApplyTo (s : St) (r : Rec) (R R2 : Nat → Prop) (w : World) (e' : Ending) (w' : World) : Prop :=
  ∃ A' n' c', e' = .returned (.tuple #[.agg #[.int .i64 (refApplyP s r).1.view, .int .i64 (refApplyP s r).1.normal, .int .i64 (refApplyP s r).1.commit, .int .i64 (refApplyP s r).1.active, .slice A' n' c'], .int .i64 (refApplyP s r).2]) ∧ Ty.At entryK w' (fun k => ((R k ∨ R2 k) ∧ k < w.heap.size ∨ w.heap.size ≤ k) ∧ k < w'.heap.size) A' n' c' (refApplyP s r).1.log ∧ Chg (fun _ => False) w w'
theorem entry_move {w w' : World} {S S' : Nat → Prop} {x : Entry} {cs : List Value} (h : entryK.K w S x cs) {M : Nat → Prop} (hc : Chg M w w') (hM : ∀ k, S k → ¬ M k) (hS : ∀ k, S k → S' k) : entryK.K w' S' x cs := entryK.mono (entryK.chg h hc hM) hS
set_option maxHeartbeats 4000000 in
set_option maxRecDepth 100000 in
theorem refApply_any {w : World} {R R2 : Nat → Prop} {s : St} {A : Option Addr} {n c : Nat} {r : Rec} {B : Option Addr} {k d : Nat} (hl : Ty.At entryK w R A n c s.log) (hr : Ty.At entryK w R2 B k d r.log) (hs : stR s = true) (hrr : recR r = true) :
    Calls Try.prog 29 #[.agg #[.int .i64 s.view, .int .i64 s.normal, .int .i64 s.commit, .int .i64 s.active, .slice A n c], .agg #[.int .i64 r.kind, .int .i64 r.a, .int .i64 r.b, .slice B k d]] w (RefApplyTo s r R R2 w) := by
  obtain ⟨b2, hb2⟩ : ∃ x, x = w.heap.size + 1 := ⟨_, rfl⟩
  obtain ⟨b3, hb3⟩ : ∃ x, x = w.heap.size + 1 + 1 := ⟨_, rfl⟩
  obtain ⟨w0, hw0⟩ : ∃ x, x = (((w.alloc (.cells #[.int .i64 s.view, .int .i64 s.normal, .int .i64 s.commit, .int .i64 s.active, .slice A n c] 41)).alloc (.cells #[.int .i64 r.kind, .int .i64 r.a, .int .i64 r.b, .slice B k d] 67)).alloc (.cells #[.int .i64 0, .int .i64 0, .int .i64 0, .int .i64 0, .slice none 0 0] 41)) := ⟨_, rfl⟩
  have C0 := hid (show Chg (fun _ => False) w w0 by rw [hw0]; exact (((Chg.refl _ w).alloc _).alloc _).alloc _)
  have BS := hid (show w0.heap[w.heap.size]? = some (.cells #[.int .i64 s.view, .int .i64 s.normal, .int .i64 s.commit, .int .i64 s.active, .slice A n c] 41 (0, 0)) by
    rw [hw0]
    refine blk_alloc (blk_alloc ?_ _) _
    have := blk_new w (.cells #[.int .i64 s.view, .int .i64 s.normal, .int .i64 s.commit, .int .i64 s.active, .slice A n c] 41)
    simpa using this)
  have BR := hid (show w0.heap[b2]? = some (.cells #[.int .i64 r.kind, .int .i64 r.a, .int .i64 r.b, .slice B k d] 67 (0, 0)) by
    rw [hw0, hb2]
    refine blk_alloc ?_ _
    have := blk_new (w.alloc (.cells #[.int .i64 s.view, .int .i64 s.normal, .int .i64 s.commit, .int .i64 s.active, .slice A n c] 41)) (.cells #[.int .i64 r.kind, .int .i64 r.a, .int .i64 r.b, .slice B k d] 67)
    simpa using this)
  have BT := hid (show w0.heap[b3]? = some (.cells #[.int .i64 0, .int .i64 0, .int .i64 0, .int .i64 0, .slice none 0 0] 41 (0, 0)) by
    rw [hw0, hb3]
    have := blk_new ((w.alloc (.cells #[.int .i64 s.view, .int .i64 s.normal, .int .i64 s.commit, .int .i64 s.active, .slice A n c] 41)).alloc (.cells #[.int .i64 r.kind, .int .i64 r.a, .int .i64 r.b, .slice B k d] 67)) (.cells #[.int .i64 0, .int .i64 0, .int .i64 0, .int .i64 0, .slice none 0 0] 41)
    simpa using this)
  have ne01 : w.heap.size ≠ b2 := by omega
  have ne10 : b2 ≠ w.heap.size := by omega
  have ne02 : w.heap.size ≠ b3 := by omega
  have ne20 : b3 ≠ w.heap.size := by omega
  have ne12 : b2 ≠ b3 := by omega
  have ne21 : b3 ≠ b2 := by omega
  have Hb2 := hid hb2
  have ltb2 : w.heap.size < b2 := by omega
  have Hb3 := hid hb3
  have ltb3 : w.heap.size < b3 := by omega
  have SZ := hid (show w0.heap.size = w.heap.size + 3 by rw [hw0]; simp)
  have HL := hid (hl.bound.chg C0.out (fun _ _ h => h))
  have HR := hid (hr.bound.chg C0.out (fun _ _ h => h))
  have L1 := hid hl.1
  have HS := hid hs
  have HRR := hid hrr
  have hn64 : (n : Int) ≤ 64 := by have h1 := (stR_iff.1 hs).1; have h2 := hl.1; omega
  have hrl := recR_iff.1 hrr
  clear hl hr hs hrr
  obtain ⟨W0, hW0⟩ : ∃ W, W = w0.alloc (.cells #[] 100) := ⟨_, rfl⟩
  obtain ⟨b4, hb4⟩ : ∃ x, x = w.heap.size + 1 + 1 + 1 := ⟨_, rfl⟩
  have HB4 := hid (show b4 = w0.heap.size by rw [hb4, SZ.out])
  have CW0 := hid (show Chg (fun _ => False) w0 W0 by rw [hW0]; exact (Chg.refl _ w0).alloc _)
  have VN := hid (show Vec entryK 100 W0 (fun k => w0.heap.size ≤ k) (fun k => (R k ∨ R2 k) ∧ k < w.heap.size) (.slice (some ⟨b4, 0, none⟩) 0 0) [] by
    rw [hW0, HB4.out]
    exact ⟨[], ⟨by simp, .inr ⟨w0.heap.size, 0, #[], rfl, Nat.zero_le _, blk_new w0 _, Nat.le_refl _, by simp [maxLen], by simp, by simp⟩⟩, fun k hk => by simp [Value.ownBlock] at hk; show w0.heap.size ≤ k; omega, Ty.Row.nil _ _ _⟩)
  have HL0 := hid (HL.out.chg CW0.out (fun _ _ h => h))
  obtain ⟨q1, q2, q3, q4, news, q5, q6⟩ := HL0.out
  have Q1 := hid q1
  have Q2 := hid q2
  have Q4 := hid q4
  have Q5 := hid q5
  have Q6 := hid q6
  clear q1 q2 q3 q4 q5 q6
  obtain ⟨kind, a, b, log⟩ := r
  simp only at *
  have hkd : kind = 1 ∨ kind = 2 ∨ kind = 3 ∨ kind = 4 ∨ kind = 5 := by have := hrl.1.1; omega
  have HRL := hid hrl
  clear hrl
  rcases hkd with rfl | rfl | rfl | rfl | rfl
  · by_cases c1 : a < s.view
    case pos =>
      have G := hid (show refApplyP s ⟨1, a, b, log⟩ = (st0, 54) by unfold refApplyP; rw [show applyS s ⟨1, a, b, log⟩ = none by rw [applyS1, if_neg (fun h => by have := h.1; have := L1.out; omega)]])
      go_enter Try.func29, Try.ntmps29
      go_wp2_with (first | ((with_reducible refine at_dst (N := 10) rfl ?_); rw [← hb4, ← hb3, ← hb2, ← hw0, ← hW0]; clear hw0 hW0 hb4 hb2 hb3; refine vec_list (d := entryK) _ rfl (.tmp 7) (.tmp 9) 39 100 (.agg #[.int .i64 0, .int .i64 0, .int .i64 0, .int .i64 0, .int .i64 0, .int .i64 0, .int .i64 0, .slice none 0 0, .slice none 0 0]) 104 rfl Try.underlying39 infoEntry2 rfl (by decide) (by decide) (.slice (some ⟨b4, 0, none⟩) 0 0) rfl VN.out A n c (ys := s.log) rfl Q4.out Q2.out Q1.out Q5.out (Q6.out.mono (fun j hj => ⟨⟨.inl hj.1, hj.2⟩, by simp [Value.ownBlock]; have h1 := HB4.out; have h2 := SZ.out; have h3 := hj.2; omega, by have h1 := CW0.out.size; have h2 := SZ.out; have h3 := hj.2; omega⟩)) (by simp; omega) ?_; simp only [List.length_nil, Nat.zero_add, List.nil_append]; intro A1 cc1 w1 g1 g2; have HV := hid g1; have CV := hid (show Chg (fun _ => False) w0 w1 from CW0.out.trans g2 (fun j hj hl => by simp [Value.ownBlock] at hj; have h1 := HB4.out; omega)); clear g1 g2; replace BS := hid (CV.out.blk BS.out (fun h => h)); replace BR := hid (CV.out.blk BR.out (fun h => h)); replace BT := hid (CV.out.blk BT.out (fun h => h)); have HLOG := hid (show Ty.At entryK w1 (fun j => ((R j ∨ R2 j) ∧ j < w.heap.size ∨ w0.heap.size ≤ j) ∧ j < w1.heap.size) A1 n cc1 s.log from HV.out.at.bound.mono (fun j hj => ⟨by have h1 := CW0.out.size; rcases hj.1 with (h | h) | h; exact .inr h; exact .inr (by omega); exact .inl h, hj.2⟩)); have S_0 : w1.cell? ⟨w.heap.size, 0, none⟩ = some (.int .i64 s.view) := (cellAt BS.out 0).trans rfl; have S_f0 : w1.frozen? ⟨w.heap.size, 0, none⟩ = false := freeAt BS.out 0; have S_1 : w1.cell? ⟨w.heap.size, 1, none⟩ = some (.int .i64 s.normal) := (cellAt BS.out 1).trans rfl; have S_f1 : w1.frozen? ⟨w.heap.size, 1, none⟩ = false := freeAt BS.out 1; have S_2 : w1.cell? ⟨w.heap.size, 2, none⟩ = some (.int .i64 s.commit) := (cellAt BS.out 2).trans rfl; have S_f2 : w1.frozen? ⟨w.heap.size, 2, none⟩ = false := freeAt BS.out 2; have S_3 : w1.cell? ⟨w.heap.size, 3, none⟩ = some (.int .i64 s.active) := (cellAt BS.out 3).trans rfl; have S_f3 : w1.frozen? ⟨w.heap.size, 3, none⟩ = false := freeAt BS.out 3; have S_4 : w1.cell? ⟨w.heap.size, 4, none⟩ = some (.slice A n c) := (cellAt BS.out 4).trans rfl; have S_f4 : w1.frozen? ⟨w.heap.size, 4, none⟩ = false := freeAt BS.out 4; have R_0 : w1.cell? ⟨b2, 0, none⟩ = some (.int .i64 1) := (cellAt BR.out 0).trans rfl; have R_1 : w1.cell? ⟨b2, 1, none⟩ = some (.int .i64 a) := (cellAt BR.out 1).trans rfl; have R_2 : w1.cell? ⟨b2, 2, none⟩ = some (.int .i64 b) := (cellAt BR.out 2).trans rfl; have R_3 : w1.cell? ⟨b2, 3, none⟩ = some (.slice B k d) := (cellAt BR.out 3).trans rfl; have T_0 : w1.cell? ⟨b3, 0, none⟩ = some (.int .i64 0) := (cellAt BT.out 0).trans rfl; have T_f0 : w1.frozen? ⟨b3, 0, none⟩ = false := freeAt BT.out 0; have T_1 : w1.cell? ⟨b3, 1, none⟩ = some (.int .i64 0) := (cellAt BT.out 1).trans rfl; have T_f1 : w1.frozen? ⟨b3, 1, none⟩ = false := freeAt BT.out 1; have T_2 : w1.cell? ⟨b3, 2, none⟩ = some (.int .i64 0) := (cellAt BT.out 2).trans rfl; have T_f2 : w1.frozen? ⟨b3, 2, none⟩ = false := freeAt BT.out 2; have T_3 : w1.cell? ⟨b3, 3, none⟩ = some (.int .i64 0) := (cellAt BT.out 3).trans rfl; have T_f3 : w1.frozen? ⟨b3, 3, none⟩ = false := freeAt BT.out 3; have T_4 : w1.cell? ⟨b3, 4, none⟩ = some (.slice none 0 0) := (cellAt BT.out 4).trans rfl; have T_f4 : w1.frozen? ⟨b3, 4, none⟩ = false := freeAt BT.out 4; have ltw : w.heap.size < w1.heap.size := lt_of_blk BS.out))
      clear S_0 S_f0 S_1 S_f1 S_2 S_f2 S_3 S_f3 S_4 S_f4 R_0 R_1 R_2 R_3 T_0 T_f0 T_1 T_f1 T_2 T_f2 T_3 T_f3 T_4 T_f4
      obtain ⟨PB, PC⟩ := put_blk [(.int .i64 0 : Value), .int .i64 0, .int .i64 0, .int .i64 0, .slice none 0 0] w1 _ BT.out rfl
      generalize hW : (((((w1.setCell ⟨b3, 0, none⟩ (.int .i64 0)).setCell ⟨b3, 1, none⟩ (.int .i64 0)).setCell ⟨b3, 2, none⟩ (.int .i64 0)).setCell ⟨b3, 3, none⟩ (.int .i64 0)).setCell ⟨b3, 4, none⟩ (.slice none 0 0)) = W
      have BT2 := hid (show W.heap[b3]? = some (.cells #[.int .i64 0, .int .i64 0, .int .i64 0, .int .i64 0, .slice none 0 0] 41 (0, 0)) by rw [← hW]; exact PB)
      have CW := hid (show Chg (fun k => k = b3) w1 W by rw [← hW]; exact PC)
      clear PB PC hW
      have z0 : W.cell? ⟨b3, 0, none⟩ = some (.int .i64 0) := (cellAt BT2.out 0).trans rfl
      have z1 : W.cell? ⟨b3, 1, none⟩ = some (.int .i64 0) := (cellAt BT2.out 1).trans rfl
      have z2 : W.cell? ⟨b3, 2, none⟩ = some (.int .i64 0) := (cellAt BT2.out 2).trans rfl
      have z3 : W.cell? ⟨b3, 3, none⟩ = some (.int .i64 0) := (cellAt BT2.out 3).trans rfl
      have z4 : W.cell? ⟨b3, 4, none⟩ = some (.slice none 0 0) := (cellAt BT2.out 4).trans rfl
      refine bodyPost_ret (v := .tuple #[.agg #[.int .i64 0, .int .i64 0, .int .i64 0, .int .i64 0, .slice none 0 0], .int .i64 54]) (by simp [results, Try.results29, go_sem, z0, z1, z2, z3, z4]) rfl ?_
      exact ⟨none, 0, 0, by rw [G.out]; rfl, by rw [G.out]; exact at_nil_ _ _ _, ((C0.out.trans CV.out (fun _ h _ => h)).trans CW.out (fun j hj hl => by have := Hb2.out; have := Hb3.out; omega))⟩
    by_cases c2 : b < s.normal
    case pos =>
      have G := hid (show refApplyP s ⟨1, a, b, log⟩ = (st0, 54) by unfold refApplyP; rw [show applyS s ⟨1, a, b, log⟩ = none by rw [applyS1, if_neg (fun h => by have := h.2.1; have := L1.out; omega)]])
      go_enter Try.func29, Try.ntmps29
      go_wp2_with (first | ((with_reducible refine at_dst (N := 10) rfl ?_); rw [← hb4, ← hb3, ← hb2, ← hw0, ← hW0]; clear hw0 hW0 hb4 hb2 hb3; refine vec_list (d := entryK) _ rfl (.tmp 7) (.tmp 9) 39 100 (.agg #[.int .i64 0, .int .i64 0, .int .i64 0, .int .i64 0, .int .i64 0, .int .i64 0, .int .i64 0, .slice none 0 0, .slice none 0 0]) 104 rfl Try.underlying39 infoEntry2 rfl (by decide) (by decide) (.slice (some ⟨b4, 0, none⟩) 0 0) rfl VN.out A n c (ys := s.log) rfl Q4.out Q2.out Q1.out Q5.out (Q6.out.mono (fun j hj => ⟨⟨.inl hj.1, hj.2⟩, by simp [Value.ownBlock]; have h1 := HB4.out; have h2 := SZ.out; have h3 := hj.2; omega, by have h1 := CW0.out.size; have h2 := SZ.out; have h3 := hj.2; omega⟩)) (by simp; omega) ?_; simp only [List.length_nil, Nat.zero_add, List.nil_append]; intro A1 cc1 w1 g1 g2; have HV := hid g1; have CV := hid (show Chg (fun _ => False) w0 w1 from CW0.out.trans g2 (fun j hj hl => by simp [Value.ownBlock] at hj; have h1 := HB4.out; omega)); clear g1 g2; replace BS := hid (CV.out.blk BS.out (fun h => h)); replace BR := hid (CV.out.blk BR.out (fun h => h)); replace BT := hid (CV.out.blk BT.out (fun h => h)); have HLOG := hid (show Ty.At entryK w1 (fun j => ((R j ∨ R2 j) ∧ j < w.heap.size ∨ w0.heap.size ≤ j) ∧ j < w1.heap.size) A1 n cc1 s.log from HV.out.at.bound.mono (fun j hj => ⟨by have h1 := CW0.out.size; rcases hj.1 with (h | h) | h; exact .inr h; exact .inr (by omega); exact .inl h, hj.2⟩)); have S_0 : w1.cell? ⟨w.heap.size, 0, none⟩ = some (.int .i64 s.view) := (cellAt BS.out 0).trans rfl; have S_f0 : w1.frozen? ⟨w.heap.size, 0, none⟩ = false := freeAt BS.out 0; have S_1 : w1.cell? ⟨w.heap.size, 1, none⟩ = some (.int .i64 s.normal) := (cellAt BS.out 1).trans rfl; have S_f1 : w1.frozen? ⟨w.heap.size, 1, none⟩ = false := freeAt BS.out 1; have S_2 : w1.cell? ⟨w.heap.size, 2, none⟩ = some (.int .i64 s.commit) := (cellAt BS.out 2).trans rfl; have S_f2 : w1.frozen? ⟨w.heap.size, 2, none⟩ = false := freeAt BS.out 2; have S_3 : w1.cell? ⟨w.heap.size, 3, none⟩ = some (.int .i64 s.active) := (cellAt BS.out 3).trans rfl; have S_f3 : w1.frozen? ⟨w.heap.size, 3, none⟩ = false := freeAt BS.out 3; have S_4 : w1.cell? ⟨w.heap.size, 4, none⟩ = some (.slice A n c) := (cellAt BS.out 4).trans rfl; have S_f4 : w1.frozen? ⟨w.heap.size, 4, none⟩ = false := freeAt BS.out 4; have R_0 : w1.cell? ⟨b2, 0, none⟩ = some (.int .i64 1) := (cellAt BR.out 0).trans rfl; have R_1 : w1.cell? ⟨b2, 1, none⟩ = some (.int .i64 a) := (cellAt BR.out 1).trans rfl; have R_2 : w1.cell? ⟨b2, 2, none⟩ = some (.int .i64 b) := (cellAt BR.out 2).trans rfl; have R_3 : w1.cell? ⟨b2, 3, none⟩ = some (.slice B k d) := (cellAt BR.out 3).trans rfl; have T_0 : w1.cell? ⟨b3, 0, none⟩ = some (.int .i64 0) := (cellAt BT.out 0).trans rfl; have T_f0 : w1.frozen? ⟨b3, 0, none⟩ = false := freeAt BT.out 0; have T_1 : w1.cell? ⟨b3, 1, none⟩ = some (.int .i64 0) := (cellAt BT.out 1).trans rfl; have T_f1 : w1.frozen? ⟨b3, 1, none⟩ = false := freeAt BT.out 1; have T_2 : w1.cell? ⟨b3, 2, none⟩ = some (.int .i64 0) := (cellAt BT.out 2).trans rfl; have T_f2 : w1.frozen? ⟨b3, 2, none⟩ = false := freeAt BT.out 2; have T_3 : w1.cell? ⟨b3, 3, none⟩ = some (.int .i64 0) := (cellAt BT.out 3).trans rfl; have T_f3 : w1.frozen? ⟨b3, 3, none⟩ = false := freeAt BT.out 3; have T_4 : w1.cell? ⟨b3, 4, none⟩ = some (.slice none 0 0) := (cellAt BT.out 4).trans rfl; have T_f4 : w1.frozen? ⟨b3, 4, none⟩ = false := freeAt BT.out 4; have ltw : w.heap.size < w1.heap.size := lt_of_blk BS.out))
      clear S_0 S_f0 S_1 S_f1 S_2 S_f2 S_3 S_f3 S_4 S_f4 R_0 R_1 R_2 R_3 T_0 T_f0 T_1 T_f1 T_2 T_f2 T_3 T_f3 T_4 T_f4
      obtain ⟨PB, PC⟩ := put_blk [(.int .i64 0 : Value), .int .i64 0, .int .i64 0, .int .i64 0, .slice none 0 0] w1 _ BT.out rfl
      generalize hW : (((((w1.setCell ⟨b3, 0, none⟩ (.int .i64 0)).setCell ⟨b3, 1, none⟩ (.int .i64 0)).setCell ⟨b3, 2, none⟩ (.int .i64 0)).setCell ⟨b3, 3, none⟩ (.int .i64 0)).setCell ⟨b3, 4, none⟩ (.slice none 0 0)) = W
      have BT2 := hid (show W.heap[b3]? = some (.cells #[.int .i64 0, .int .i64 0, .int .i64 0, .int .i64 0, .slice none 0 0] 41 (0, 0)) by rw [← hW]; exact PB)
      have CW := hid (show Chg (fun k => k = b3) w1 W by rw [← hW]; exact PC)
      clear PB PC hW
      have z0 : W.cell? ⟨b3, 0, none⟩ = some (.int .i64 0) := (cellAt BT2.out 0).trans rfl
      have z1 : W.cell? ⟨b3, 1, none⟩ = some (.int .i64 0) := (cellAt BT2.out 1).trans rfl
      have z2 : W.cell? ⟨b3, 2, none⟩ = some (.int .i64 0) := (cellAt BT2.out 2).trans rfl
      have z3 : W.cell? ⟨b3, 3, none⟩ = some (.int .i64 0) := (cellAt BT2.out 3).trans rfl
      have z4 : W.cell? ⟨b3, 4, none⟩ = some (.slice none 0 0) := (cellAt BT2.out 4).trans rfl
      refine bodyPost_ret (v := .tuple #[.agg #[.int .i64 0, .int .i64 0, .int .i64 0, .int .i64 0, .slice none 0 0], .int .i64 54]) (by simp [results, Try.results29, go_sem, z0, z1, z2, z3, z4]) rfl ?_
      exact ⟨none, 0, 0, by rw [G.out]; rfl, by rw [G.out]; exact at_nil_ _ _ _, ((C0.out.trans CV.out (fun _ h _ => h)).trans CW.out (fun j hj hl => by have := Hb2.out; have := Hb3.out; omega))⟩
    by_cases c3 : a < b
    case pos =>
      have G := hid (show refApplyP s ⟨1, a, b, log⟩ = (st0, 54) by unfold refApplyP; rw [show applyS s ⟨1, a, b, log⟩ = none by rw [applyS1, if_neg (fun h => by have := h.2.2; have := L1.out; omega)]])
      go_enter Try.func29, Try.ntmps29
      go_wp2_with (first | ((with_reducible refine at_dst (N := 10) rfl ?_); rw [← hb4, ← hb3, ← hb2, ← hw0, ← hW0]; clear hw0 hW0 hb4 hb2 hb3; refine vec_list (d := entryK) _ rfl (.tmp 7) (.tmp 9) 39 100 (.agg #[.int .i64 0, .int .i64 0, .int .i64 0, .int .i64 0, .int .i64 0, .int .i64 0, .int .i64 0, .slice none 0 0, .slice none 0 0]) 104 rfl Try.underlying39 infoEntry2 rfl (by decide) (by decide) (.slice (some ⟨b4, 0, none⟩) 0 0) rfl VN.out A n c (ys := s.log) rfl Q4.out Q2.out Q1.out Q5.out (Q6.out.mono (fun j hj => ⟨⟨.inl hj.1, hj.2⟩, by simp [Value.ownBlock]; have h1 := HB4.out; have h2 := SZ.out; have h3 := hj.2; omega, by have h1 := CW0.out.size; have h2 := SZ.out; have h3 := hj.2; omega⟩)) (by simp; omega) ?_; simp only [List.length_nil, Nat.zero_add, List.nil_append]; intro A1 cc1 w1 g1 g2; have HV := hid g1; have CV := hid (show Chg (fun _ => False) w0 w1 from CW0.out.trans g2 (fun j hj hl => by simp [Value.ownBlock] at hj; have h1 := HB4.out; omega)); clear g1 g2; replace BS := hid (CV.out.blk BS.out (fun h => h)); replace BR := hid (CV.out.blk BR.out (fun h => h)); replace BT := hid (CV.out.blk BT.out (fun h => h)); have HLOG := hid (show Ty.At entryK w1 (fun j => ((R j ∨ R2 j) ∧ j < w.heap.size ∨ w0.heap.size ≤ j) ∧ j < w1.heap.size) A1 n cc1 s.log from HV.out.at.bound.mono (fun j hj => ⟨by have h1 := CW0.out.size; rcases hj.1 with (h | h) | h; exact .inr h; exact .inr (by omega); exact .inl h, hj.2⟩)); have S_0 : w1.cell? ⟨w.heap.size, 0, none⟩ = some (.int .i64 s.view) := (cellAt BS.out 0).trans rfl; have S_f0 : w1.frozen? ⟨w.heap.size, 0, none⟩ = false := freeAt BS.out 0; have S_1 : w1.cell? ⟨w.heap.size, 1, none⟩ = some (.int .i64 s.normal) := (cellAt BS.out 1).trans rfl; have S_f1 : w1.frozen? ⟨w.heap.size, 1, none⟩ = false := freeAt BS.out 1; have S_2 : w1.cell? ⟨w.heap.size, 2, none⟩ = some (.int .i64 s.commit) := (cellAt BS.out 2).trans rfl; have S_f2 : w1.frozen? ⟨w.heap.size, 2, none⟩ = false := freeAt BS.out 2; have S_3 : w1.cell? ⟨w.heap.size, 3, none⟩ = some (.int .i64 s.active) := (cellAt BS.out 3).trans rfl; have S_f3 : w1.frozen? ⟨w.heap.size, 3, none⟩ = false := freeAt BS.out 3; have S_4 : w1.cell? ⟨w.heap.size, 4, none⟩ = some (.slice A n c) := (cellAt BS.out 4).trans rfl; have S_f4 : w1.frozen? ⟨w.heap.size, 4, none⟩ = false := freeAt BS.out 4; have R_0 : w1.cell? ⟨b2, 0, none⟩ = some (.int .i64 1) := (cellAt BR.out 0).trans rfl; have R_1 : w1.cell? ⟨b2, 1, none⟩ = some (.int .i64 a) := (cellAt BR.out 1).trans rfl; have R_2 : w1.cell? ⟨b2, 2, none⟩ = some (.int .i64 b) := (cellAt BR.out 2).trans rfl; have R_3 : w1.cell? ⟨b2, 3, none⟩ = some (.slice B k d) := (cellAt BR.out 3).trans rfl; have T_0 : w1.cell? ⟨b3, 0, none⟩ = some (.int .i64 0) := (cellAt BT.out 0).trans rfl; have T_f0 : w1.frozen? ⟨b3, 0, none⟩ = false := freeAt BT.out 0; have T_1 : w1.cell? ⟨b3, 1, none⟩ = some (.int .i64 0) := (cellAt BT.out 1).trans rfl; have T_f1 : w1.frozen? ⟨b3, 1, none⟩ = false := freeAt BT.out 1; have T_2 : w1.cell? ⟨b3, 2, none⟩ = some (.int .i64 0) := (cellAt BT.out 2).trans rfl; have T_f2 : w1.frozen? ⟨b3, 2, none⟩ = false := freeAt BT.out 2; have T_3 : w1.cell? ⟨b3, 3, none⟩ = some (.int .i64 0) := (cellAt BT.out 3).trans rfl; have T_f3 : w1.frozen? ⟨b3, 3, none⟩ = false := freeAt BT.out 3; have T_4 : w1.cell? ⟨b3, 4, none⟩ = some (.slice none 0 0) := (cellAt BT.out 4).trans rfl; have T_f4 : w1.frozen? ⟨b3, 4, none⟩ = false := freeAt BT.out 4; have ltw : w.heap.size < w1.heap.size := lt_of_blk BS.out))
      clear S_0 S_f0 S_1 S_f1 S_2 S_f2 S_3 S_f3 S_4 S_f4 R_0 R_1 R_2 R_3 T_0 T_f0 T_1 T_f1 T_2 T_f2 T_3 T_f3 T_4 T_f4
      obtain ⟨PB, PC⟩ := put_blk [(.int .i64 0 : Value), .int .i64 0, .int .i64 0, .int .i64 0, .slice none 0 0] w1 _ BT.out rfl
      generalize hW : (((((w1.setCell ⟨b3, 0, none⟩ (.int .i64 0)).setCell ⟨b3, 1, none⟩ (.int .i64 0)).setCell ⟨b3, 2, none⟩ (.int .i64 0)).setCell ⟨b3, 3, none⟩ (.int .i64 0)).setCell ⟨b3, 4, none⟩ (.slice none 0 0)) = W
      have BT2 := hid (show W.heap[b3]? = some (.cells #[.int .i64 0, .int .i64 0, .int .i64 0, .int .i64 0, .slice none 0 0] 41 (0, 0)) by rw [← hW]; exact PB)
      have CW := hid (show Chg (fun k => k = b3) w1 W by rw [← hW]; exact PC)
      clear PB PC hW
      have z0 : W.cell? ⟨b3, 0, none⟩ = some (.int .i64 0) := (cellAt BT2.out 0).trans rfl
      have z1 : W.cell? ⟨b3, 1, none⟩ = some (.int .i64 0) := (cellAt BT2.out 1).trans rfl
      have z2 : W.cell? ⟨b3, 2, none⟩ = some (.int .i64 0) := (cellAt BT2.out 2).trans rfl
      have z3 : W.cell? ⟨b3, 3, none⟩ = some (.int .i64 0) := (cellAt BT2.out 3).trans rfl
      have z4 : W.cell? ⟨b3, 4, none⟩ = some (.slice none 0 0) := (cellAt BT2.out 4).trans rfl
      refine bodyPost_ret (v := .tuple #[.agg #[.int .i64 0, .int .i64 0, .int .i64 0, .int .i64 0, .slice none 0 0], .int .i64 54]) (by simp [results, Try.results29, go_sem, z0, z1, z2, z3, z4]) rfl ?_
      exact ⟨none, 0, 0, by rw [G.out]; rfl, by rw [G.out]; exact at_nil_ _ _ _, ((C0.out.trans CV.out (fun _ h _ => h)).trans CW.out (fun j hj hl => by have := Hb2.out; have := Hb3.out; omega))⟩
    go_enter Try.func29, Try.ntmps29
    go_wp2_with (first | ((with_reducible refine at_dst (N := 10) rfl ?_); rw [← hb4, ← hb3, ← hb2, ← hw0, ← hW0]; clear hw0 hW0 hb4 hb2 hb3; refine vec_list (d := entryK) _ rfl (.tmp 7) (.tmp 9) 39 100 (.agg #[.int .i64 0, .int .i64 0, .int .i64 0, .int .i64 0, .int .i64 0, .int .i64 0, .int .i64 0, .slice none 0 0, .slice none 0 0]) 104 rfl Try.underlying39 infoEntry2 rfl (by decide) (by decide) (.slice (some ⟨b4, 0, none⟩) 0 0) rfl VN.out A n c (ys := s.log) rfl Q4.out Q2.out Q1.out Q5.out (Q6.out.mono (fun j hj => ⟨⟨.inl hj.1, hj.2⟩, by simp [Value.ownBlock]; have h1 := HB4.out; have h2 := SZ.out; have h3 := hj.2; omega, by have h1 := CW0.out.size; have h2 := SZ.out; have h3 := hj.2; omega⟩)) (by simp; omega) ?_; simp only [List.length_nil, Nat.zero_add, List.nil_append]; intro A1 cc1 w1 g1 g2; have HV := hid g1; have CV := hid (show Chg (fun _ => False) w0 w1 from CW0.out.trans g2 (fun j hj hl => by simp [Value.ownBlock] at hj; have h1 := HB4.out; omega)); clear g1 g2; replace BS := hid (CV.out.blk BS.out (fun h => h)); replace BR := hid (CV.out.blk BR.out (fun h => h)); replace BT := hid (CV.out.blk BT.out (fun h => h)); have HLOG := hid (show Ty.At entryK w1 (fun j => ((R j ∨ R2 j) ∧ j < w.heap.size ∨ w0.heap.size ≤ j) ∧ j < w1.heap.size) A1 n cc1 s.log from HV.out.at.bound.mono (fun j hj => ⟨by have h1 := CW0.out.size; rcases hj.1 with (h | h) | h; exact .inr h; exact .inr (by omega); exact .inl h, hj.2⟩)); have S_0 : w1.cell? ⟨w.heap.size, 0, none⟩ = some (.int .i64 s.view) := (cellAt BS.out 0).trans rfl; have S_f0 : w1.frozen? ⟨w.heap.size, 0, none⟩ = false := freeAt BS.out 0; have S_1 : w1.cell? ⟨w.heap.size, 1, none⟩ = some (.int .i64 s.normal) := (cellAt BS.out 1).trans rfl; have S_f1 : w1.frozen? ⟨w.heap.size, 1, none⟩ = false := freeAt BS.out 1; have S_2 : w1.cell? ⟨w.heap.size, 2, none⟩ = some (.int .i64 s.commit) := (cellAt BS.out 2).trans rfl; have S_f2 : w1.frozen? ⟨w.heap.size, 2, none⟩ = false := freeAt BS.out 2; have S_3 : w1.cell? ⟨w.heap.size, 3, none⟩ = some (.int .i64 s.active) := (cellAt BS.out 3).trans rfl; have S_f3 : w1.frozen? ⟨w.heap.size, 3, none⟩ = false := freeAt BS.out 3; have S_4 : w1.cell? ⟨w.heap.size, 4, none⟩ = some (.slice A n c) := (cellAt BS.out 4).trans rfl; have S_f4 : w1.frozen? ⟨w.heap.size, 4, none⟩ = false := freeAt BS.out 4; have R_0 : w1.cell? ⟨b2, 0, none⟩ = some (.int .i64 1) := (cellAt BR.out 0).trans rfl; have R_1 : w1.cell? ⟨b2, 1, none⟩ = some (.int .i64 a) := (cellAt BR.out 1).trans rfl; have R_2 : w1.cell? ⟨b2, 2, none⟩ = some (.int .i64 b) := (cellAt BR.out 2).trans rfl; have R_3 : w1.cell? ⟨b2, 3, none⟩ = some (.slice B k d) := (cellAt BR.out 3).trans rfl; have T_0 : w1.cell? ⟨b3, 0, none⟩ = some (.int .i64 0) := (cellAt BT.out 0).trans rfl; have T_f0 : w1.frozen? ⟨b3, 0, none⟩ = false := freeAt BT.out 0; have T_1 : w1.cell? ⟨b3, 1, none⟩ = some (.int .i64 0) := (cellAt BT.out 1).trans rfl; have T_f1 : w1.frozen? ⟨b3, 1, none⟩ = false := freeAt BT.out 1; have T_2 : w1.cell? ⟨b3, 2, none⟩ = some (.int .i64 0) := (cellAt BT.out 2).trans rfl; have T_f2 : w1.frozen? ⟨b3, 2, none⟩ = false := freeAt BT.out 2; have T_3 : w1.cell? ⟨b3, 3, none⟩ = some (.int .i64 0) := (cellAt BT.out 3).trans rfl; have T_f3 : w1.frozen? ⟨b3, 3, none⟩ = false := freeAt BT.out 3; have T_4 : w1.cell? ⟨b3, 4, none⟩ = some (.slice none 0 0) := (cellAt BT.out 4).trans rfl; have T_f4 : w1.frozen? ⟨b3, 4, none⟩ = false := freeAt BT.out 4; have ltw : w.heap.size < w1.heap.size := lt_of_blk BS.out))
    clear S_0 S_f0 S_1 S_f1 S_2 S_f2 S_3 S_f3 S_4 S_f4 R_0 R_1 R_2 R_3 T_0 T_f0 T_1 T_f1 T_2 T_f2 T_3 T_f3 T_4 T_f4
    have G := hid (show refApplyP s ⟨1, a, b, log⟩ = ({ s with view := a, normal := b }, 0) by unfold refApplyP; rw [show applyS s ⟨1, a, b, log⟩ = some { s with view := a, normal := b } by rw [applyS1, if_pos ⟨by omega, by omega, by omega⟩]])
    obtain ⟨W2, hW2⟩ : ∃ W, W = (((w1.setCell ⟨w.heap.size, 0, none⟩ (.int .i64 a)).setCell ⟨w.heap.size, 1, none⟩ (.int .i64 b)).setCell ⟨w.heap.size, 4, none⟩ (.slice A1 n cc1)) := ⟨_, rfl⟩
    rw [← hW2]
    have D2 := hid (show Chg (fun j => j = w.heap.size) w1 W2 by rw [hW2]; exact ((((Chg.refl (fun j => j = w.heap.size) w1).set (p := ⟨w.heap.size, 0, none⟩) (fun _ => rfl) _).set (p := ⟨w.heap.size, 1, none⟩) (fun _ => rfl) _).set (p := ⟨w.heap.size, 4, none⟩) (fun _ => rfl) _))
    replace BT := hid (D2.out.blk BT.out (by omega))
    clear hW2
    obtain ⟨PB, PC⟩ := put_blk [(.int .i64 a : Value), .int .i64 b, .int .i64 s.commit, .int .i64 s.active, .slice A1 n cc1] W2 _ BT.out rfl
    generalize hW : (((((W2.setCell ⟨b3, 0, none⟩ (.int .i64 a)).setCell ⟨b3, 1, none⟩ (.int .i64 b)).setCell ⟨b3, 2, none⟩ (.int .i64 s.commit)).setCell ⟨b3, 3, none⟩ (.int .i64 s.active)).setCell ⟨b3, 4, none⟩ (.slice A1 n cc1)) = W
    have BT2 := hid (show W.heap[b3]? = some (.cells #[.int .i64 a, .int .i64 b, .int .i64 s.commit, .int .i64 s.active, .slice A1 n cc1] 41 (0, 0)) by rw [← hW]; exact PB)
    have CW := hid (show Chg (fun k => k = b3) W2 W by rw [← hW]; exact PC)
    clear PB PC hW
    have z0 : W.cell? ⟨b3, 0, none⟩ = some (.int .i64 a) := (cellAt BT2.out 0).trans rfl
    have z1 : W.cell? ⟨b3, 1, none⟩ = some (.int .i64 b) := (cellAt BT2.out 1).trans rfl
    have z2 : W.cell? ⟨b3, 2, none⟩ = some (.int .i64 s.commit) := (cellAt BT2.out 2).trans rfl
    have z3 : W.cell? ⟨b3, 3, none⟩ = some (.int .i64 s.active) := (cellAt BT2.out 3).trans rfl
    have z4 : W.cell? ⟨b3, 4, none⟩ = some (.slice A1 n cc1) := (cellAt BT2.out 4).trans rfl
    refine bodyPost_ret (v := .tuple #[.agg #[.int .i64 a, .int .i64 b, .int .i64 s.commit, .int .i64 s.active, .slice A1 n cc1], .int .i64 0]) (by simp [results, Try.results29, go_sem, z0, z1, z2, z3, z4]) rfl ?_
    have HAT := ((HLOG.out.chg D2.out (fun j hj e => by have z := SZ.out; rcases hj.1 with h | h; exact absurd h.2 (by omega); omega)).chg CW.out (fun j hj e => by have z := SZ.out; have hb := Hb3.out; rcases hj.1 with h | h; exact absurd h.2 (by omega); omega)).mono (S' := fun j => ((R j ∨ R2 j) ∧ j < w.heap.size ∨ w.heap.size ≤ j) ∧ j < W.heap.size) (fun j hj => ⟨by have z := SZ.out; rcases hj.1 with h | h; exact .inl h; exact .inr (by omega), Nat.lt_of_lt_of_le hj.2 (Nat.le_trans D2.out.size CW.out.size)⟩)
    exact ⟨A1, n, cc1, by rw [G.out]; try rfl, by rw [G.out]; exact HAT, (((C0.out.trans CV.out (fun _ h _ => h)).trans (S := fun _ => False) D2.out (fun j hj hl => by omega)).trans CW.out (fun j hj hl => by have := Hb3.out; omega))⟩
  · by_cases c1 : 64 ≤ (n : Int)
    case pos =>
      have G := hid (show refApplyP s ⟨2, a, b, log⟩ = (st0, 54) by unfold refApplyP; rw [show applyS s ⟨2, a, b, log⟩ = none by rw [applyS2, if_neg (by have := L1.out; omega)]])
      go_enter Try.func29, Try.ntmps29
      go_wp2_with (first | ((with_reducible refine at_dst (N := 10) rfl ?_); rw [← hb4, ← hb3, ← hb2, ← hw0, ← hW0]; clear hw0 hW0 hb4 hb2 hb3; refine vec_list (d := entryK) _ rfl (.tmp 7) (.tmp 9) 39 100 (.agg #[.int .i64 0, .int .i64 0, .int .i64 0, .int .i64 0, .int .i64 0, .int .i64 0, .int .i64 0, .slice none 0 0, .slice none 0 0]) 104 rfl Try.underlying39 infoEntry2 rfl (by decide) (by decide) (.slice (some ⟨b4, 0, none⟩) 0 0) rfl VN.out A n c (ys := s.log) rfl Q4.out Q2.out Q1.out Q5.out (Q6.out.mono (fun j hj => ⟨⟨.inl hj.1, hj.2⟩, by simp [Value.ownBlock]; have h1 := HB4.out; have h2 := SZ.out; have h3 := hj.2; omega, by have h1 := CW0.out.size; have h2 := SZ.out; have h3 := hj.2; omega⟩)) (by simp; omega) ?_; simp only [List.length_nil, Nat.zero_add, List.nil_append]; intro A1 cc1 w1 g1 g2; have HV := hid g1; have CV := hid (show Chg (fun _ => False) w0 w1 from CW0.out.trans g2 (fun j hj hl => by simp [Value.ownBlock] at hj; have h1 := HB4.out; omega)); clear g1 g2; replace BS := hid (CV.out.blk BS.out (fun h => h)); replace BR := hid (CV.out.blk BR.out (fun h => h)); replace BT := hid (CV.out.blk BT.out (fun h => h)); have HLOG := hid (show Ty.At entryK w1 (fun j => ((R j ∨ R2 j) ∧ j < w.heap.size ∨ w0.heap.size ≤ j) ∧ j < w1.heap.size) A1 n cc1 s.log from HV.out.at.bound.mono (fun j hj => ⟨by have h1 := CW0.out.size; rcases hj.1 with (h | h) | h; exact .inr h; exact .inr (by omega); exact .inl h, hj.2⟩)); have S_0 : w1.cell? ⟨w.heap.size, 0, none⟩ = some (.int .i64 s.view) := (cellAt BS.out 0).trans rfl; have S_f0 : w1.frozen? ⟨w.heap.size, 0, none⟩ = false := freeAt BS.out 0; have S_1 : w1.cell? ⟨w.heap.size, 1, none⟩ = some (.int .i64 s.normal) := (cellAt BS.out 1).trans rfl; have S_f1 : w1.frozen? ⟨w.heap.size, 1, none⟩ = false := freeAt BS.out 1; have S_2 : w1.cell? ⟨w.heap.size, 2, none⟩ = some (.int .i64 s.commit) := (cellAt BS.out 2).trans rfl; have S_f2 : w1.frozen? ⟨w.heap.size, 2, none⟩ = false := freeAt BS.out 2; have S_3 : w1.cell? ⟨w.heap.size, 3, none⟩ = some (.int .i64 s.active) := (cellAt BS.out 3).trans rfl; have S_f3 : w1.frozen? ⟨w.heap.size, 3, none⟩ = false := freeAt BS.out 3; have S_4 : w1.cell? ⟨w.heap.size, 4, none⟩ = some (.slice A n c) := (cellAt BS.out 4).trans rfl; have S_f4 : w1.frozen? ⟨w.heap.size, 4, none⟩ = false := freeAt BS.out 4; have R_0 : w1.cell? ⟨b2, 0, none⟩ = some (.int .i64 2) := (cellAt BR.out 0).trans rfl; have R_1 : w1.cell? ⟨b2, 1, none⟩ = some (.int .i64 a) := (cellAt BR.out 1).trans rfl; have R_2 : w1.cell? ⟨b2, 2, none⟩ = some (.int .i64 b) := (cellAt BR.out 2).trans rfl; have R_3 : w1.cell? ⟨b2, 3, none⟩ = some (.slice B k d) := (cellAt BR.out 3).trans rfl; have T_0 : w1.cell? ⟨b3, 0, none⟩ = some (.int .i64 0) := (cellAt BT.out 0).trans rfl; have T_f0 : w1.frozen? ⟨b3, 0, none⟩ = false := freeAt BT.out 0; have T_1 : w1.cell? ⟨b3, 1, none⟩ = some (.int .i64 0) := (cellAt BT.out 1).trans rfl; have T_f1 : w1.frozen? ⟨b3, 1, none⟩ = false := freeAt BT.out 1; have T_2 : w1.cell? ⟨b3, 2, none⟩ = some (.int .i64 0) := (cellAt BT.out 2).trans rfl; have T_f2 : w1.frozen? ⟨b3, 2, none⟩ = false := freeAt BT.out 2; have T_3 : w1.cell? ⟨b3, 3, none⟩ = some (.int .i64 0) := (cellAt BT.out 3).trans rfl; have T_f3 : w1.frozen? ⟨b3, 3, none⟩ = false := freeAt BT.out 3; have T_4 : w1.cell? ⟨b3, 4, none⟩ = some (.slice none 0 0) := (cellAt BT.out 4).trans rfl; have T_f4 : w1.frozen? ⟨b3, 4, none⟩ = false := freeAt BT.out 4; have ltw : w.heap.size < w1.heap.size := lt_of_blk BS.out))
      clear S_0 S_f0 S_1 S_f1 S_2 S_f2 S_3 S_f3 S_4 S_f4 R_0 R_1 R_2 R_3 T_0 T_f0 T_1 T_f1 T_2 T_f2 T_3 T_f3 T_4 T_f4
      obtain ⟨PB, PC⟩ := put_blk [(.int .i64 0 : Value), .int .i64 0, .int .i64 0, .int .i64 0, .slice none 0 0] w1 _ BT.out rfl
      generalize hW : (((((w1.setCell ⟨b3, 0, none⟩ (.int .i64 0)).setCell ⟨b3, 1, none⟩ (.int .i64 0)).setCell ⟨b3, 2, none⟩ (.int .i64 0)).setCell ⟨b3, 3, none⟩ (.int .i64 0)).setCell ⟨b3, 4, none⟩ (.slice none 0 0)) = W
      have BT2 := hid (show W.heap[b3]? = some (.cells #[.int .i64 0, .int .i64 0, .int .i64 0, .int .i64 0, .slice none 0 0] 41 (0, 0)) by rw [← hW]; exact PB)
      have CW := hid (show Chg (fun k => k = b3) w1 W by rw [← hW]; exact PC)
      clear PB PC hW
      have z0 : W.cell? ⟨b3, 0, none⟩ = some (.int .i64 0) := (cellAt BT2.out 0).trans rfl
      have z1 : W.cell? ⟨b3, 1, none⟩ = some (.int .i64 0) := (cellAt BT2.out 1).trans rfl
      have z2 : W.cell? ⟨b3, 2, none⟩ = some (.int .i64 0) := (cellAt BT2.out 2).trans rfl
      have z3 : W.cell? ⟨b3, 3, none⟩ = some (.int .i64 0) := (cellAt BT2.out 3).trans rfl
      have z4 : W.cell? ⟨b3, 4, none⟩ = some (.slice none 0 0) := (cellAt BT2.out 4).trans rfl
      refine bodyPost_ret (v := .tuple #[.agg #[.int .i64 0, .int .i64 0, .int .i64 0, .int .i64 0, .slice none 0 0], .int .i64 54]) (by simp [results, Try.results29, go_sem, z0, z1, z2, z3, z4]) rfl ?_
      exact ⟨none, 0, 0, by rw [G.out]; rfl, by rw [G.out]; exact at_nil_ _ _ _, ((C0.out.trans CV.out (fun _ h _ => h)).trans CW.out (fun j hj hl => by have := Hb2.out; have := Hb3.out; omega))⟩
    obtain ⟨e0, he0⟩ : ∃ e0, log = [e0] := by
      have h1 := HRL.out.2
      rw [if_pos rfl] at h1
      exact List.length_eq_one_iff.1 h1.1
    subst he0
    have hk1 : k = 1 := HR.out.1
    subst hk1
    obtain ⟨aB, cs, haB, haR, hK, hcs⟩ := HR.out.get (by decide) (show [e0][0]? = some e0 from rfl)
    obtain ⟨E1, m1, d1, E2, m2, d2, rfl, hrw⟩ := entry_open (id hK)
    have HRW := hid hrw
    subst haB
    have HCS := hid (show ∀ wx, Chg (fun _ => False) w0 wx → ∀ i u, (entryCells e0 E1 m1 d1 E2 m2 d2)[i]? = some u → wx.cell? (aB.add (0 * 9 + i)) = some u from fun wx hx i u hi => hx.cell (hcs i u hi) (fun h => h))
    clear hcs hK haR hrw
    go_enter Try.func29, Try.ntmps29
    go_wp2_with (first | ((with_reducible refine at_dst (N := 10) rfl ?_); rw [← hb4, ← hb3, ← hb2, ← hw0, ← hW0]; clear hw0 hW0 hb4 hb2 hb3; refine vec_list (d := entryK) _ rfl (.tmp 7) (.tmp 9) 39 100 (.agg #[.int .i64 0, .int .i64 0, .int .i64 0, .int .i64 0, .int .i64 0, .int .i64 0, .int .i64 0, .slice none 0 0, .slice none 0 0]) 104 rfl Try.underlying39 infoEntry2 rfl (by decide) (by decide) (.slice (some ⟨b4, 0, none⟩) 0 0) rfl VN.out A n c (ys := s.log) rfl Q4.out Q2.out Q1.out Q5.out (Q6.out.mono (fun j hj => ⟨⟨.inl hj.1, hj.2⟩, by simp [Value.ownBlock]; have h1 := HB4.out; have h2 := SZ.out; have h3 := hj.2; omega, by have h1 := CW0.out.size; have h2 := SZ.out; have h3 := hj.2; omega⟩)) (by simp; omega) ?_; simp only [List.length_nil, Nat.zero_add, List.nil_append]; intro A1 cc1 w1 g1 g2; have HV := hid g1; have CV := hid (show Chg (fun _ => False) w0 w1 from CW0.out.trans g2 (fun j hj hl => by simp [Value.ownBlock] at hj; have h1 := HB4.out; omega)); clear g1 g2; replace BS := hid (CV.out.blk BS.out (fun h => h)); replace BR := hid (CV.out.blk BR.out (fun h => h)); replace BT := hid (CV.out.blk BT.out (fun h => h)); have HLOG := hid (show Ty.At entryK w1 (fun j => ((R j ∨ R2 j) ∧ j < w.heap.size ∨ w0.heap.size ≤ j) ∧ j < w1.heap.size) A1 n cc1 s.log from HV.out.at.bound.mono (fun j hj => ⟨by have h1 := CW0.out.size; rcases hj.1 with (h | h) | h; exact .inr h; exact .inr (by omega); exact .inl h, hj.2⟩)); have S_0 : w1.cell? ⟨w.heap.size, 0, none⟩ = some (.int .i64 s.view) := (cellAt BS.out 0).trans rfl; have S_f0 : w1.frozen? ⟨w.heap.size, 0, none⟩ = false := freeAt BS.out 0; have S_1 : w1.cell? ⟨w.heap.size, 1, none⟩ = some (.int .i64 s.normal) := (cellAt BS.out 1).trans rfl; have S_f1 : w1.frozen? ⟨w.heap.size, 1, none⟩ = false := freeAt BS.out 1; have S_2 : w1.cell? ⟨w.heap.size, 2, none⟩ = some (.int .i64 s.commit) := (cellAt BS.out 2).trans rfl; have S_f2 : w1.frozen? ⟨w.heap.size, 2, none⟩ = false := freeAt BS.out 2; have S_3 : w1.cell? ⟨w.heap.size, 3, none⟩ = some (.int .i64 s.active) := (cellAt BS.out 3).trans rfl; have S_f3 : w1.frozen? ⟨w.heap.size, 3, none⟩ = false := freeAt BS.out 3; have S_4 : w1.cell? ⟨w.heap.size, 4, none⟩ = some (.slice A n c) := (cellAt BS.out 4).trans rfl; have S_f4 : w1.frozen? ⟨w.heap.size, 4, none⟩ = false := freeAt BS.out 4; have R_0 : w1.cell? ⟨b2, 0, none⟩ = some (.int .i64 2) := (cellAt BR.out 0).trans rfl; have R_1 : w1.cell? ⟨b2, 1, none⟩ = some (.int .i64 a) := (cellAt BR.out 1).trans rfl; have R_2 : w1.cell? ⟨b2, 2, none⟩ = some (.int .i64 b) := (cellAt BR.out 2).trans rfl; have R_3 : w1.cell? ⟨b2, 3, none⟩ = some (.slice (some aB) 1 d) := (cellAt BR.out 3).trans rfl; have T_0 : w1.cell? ⟨b3, 0, none⟩ = some (.int .i64 0) := (cellAt BT.out 0).trans rfl; have T_f0 : w1.frozen? ⟨b3, 0, none⟩ = false := freeAt BT.out 0; have T_1 : w1.cell? ⟨b3, 1, none⟩ = some (.int .i64 0) := (cellAt BT.out 1).trans rfl; have T_f1 : w1.frozen? ⟨b3, 1, none⟩ = false := freeAt BT.out 1; have T_2 : w1.cell? ⟨b3, 2, none⟩ = some (.int .i64 0) := (cellAt BT.out 2).trans rfl; have T_f2 : w1.frozen? ⟨b3, 2, none⟩ = false := freeAt BT.out 2; have T_3 : w1.cell? ⟨b3, 3, none⟩ = some (.int .i64 0) := (cellAt BT.out 3).trans rfl; have T_f3 : w1.frozen? ⟨b3, 3, none⟩ = false := freeAt BT.out 3; have T_4 : w1.cell? ⟨b3, 4, none⟩ = some (.slice none 0 0) := (cellAt BT.out 4).trans rfl; have T_f4 : w1.frozen? ⟨b3, 4, none⟩ = false := freeAt BT.out 4; have ltw : w.heap.size < w1.heap.size := lt_of_blk BS.out; have y0 : w1.cell? aB = some (.int .i64 e0.view) := elem_cell0 (HCS.out _ CV.out) _ rfl; have y1 : w1.cell? ⟨aB.block, aB.off + 1, none⟩ = some (.int .i64 e0.client) := elem_cell (HCS.out _ CV.out) 0 _ rfl; have y2 : w1.cell? ⟨aB.block, aB.off + 2, none⟩ = some (.int .i64 e0.request) := elem_cell (HCS.out _ CV.out) 1 _ rfl; have y3 : w1.cell? ⟨aB.block, aB.off + 3, none⟩ = some (.int .i64 e0.dflt) := elem_cell (HCS.out _ CV.out) 2 _ rfl; have y4 : w1.cell? ⟨aB.block, aB.off + 4, none⟩ = some (.int .i64 e0.closed) := elem_cell (HCS.out _ CV.out) 3 _ rfl; have y5 : w1.cell? ⟨aB.block, aB.off + 5, none⟩ = some (.int .i64 e0.fuel) := elem_cell (HCS.out _ CV.out) 4 _ rfl; have y6 : w1.cell? ⟨aB.block, aB.off + 6, none⟩ = some (.int .i64 e0.stack) := elem_cell (HCS.out _ CV.out) 5 _ rfl; have y7 : w1.cell? ⟨aB.block, aB.off + 7, none⟩ = some (.slice E1 m1 d1) := elem_cell (HCS.out _ CV.out) 6 _ rfl; have y8 : w1.cell? ⟨aB.block, aB.off + 8, none⟩ = some (.slice E2 m2 d2) := elem_cell (HCS.out _ CV.out) 7 _ rfl; have HVS := hid (show ∀ j, (Value.slice A1 n cc1).ownBlock = some j → w0.heap.size ≤ j from fun j hj => by rcases HV.out.inS j hj with h | h; exact h; have := CW0.out.size; omega); have HMV := hid (show Ty.At ruleK (w1.alloc (.cells #[.int .i64 e0.view, .int .i64 e0.client, .int .i64 e0.request, .int .i64 e0.dflt, .int .i64 e0.closed, .int .i64 e0.fuel, .int .i64 e0.stack, .slice E1 m1 d1, .slice E2 m2 d2] 100)) (fun j => ((R j ∨ R2 j) ∧ j < w.heap.size) ∧ (Value.slice A1 n cc1).ownBlock ≠ some j ∧ j < (w1.alloc (.cells #[.int .i64 e0.view, .int .i64 e0.client, .int .i64 e0.request, .int .i64 e0.dflt, .int .i64 e0.closed, .int .i64 e0.fuel, .int .i64 e0.stack, .slice E1 m1 d1, .slice E2 m2 d2] 100)).heap.size) E1 m1 d1 e0.put ∧ Ty.At (Ty.int .i64) (w1.alloc (.cells #[.int .i64 e0.view, .int .i64 e0.client, .int .i64 e0.request, .int .i64 e0.dflt, .int .i64 e0.closed, .int .i64 e0.fuel, .int .i64 e0.stack, .slice E1 m1 d1, .slice E2 m2 d2] 100)) (fun j => ((R j ∨ R2 j) ∧ j < w.heap.size) ∧ (Value.slice A1 n cc1).ownBlock ≠ some j ∧ j < (w1.alloc (.cells #[.int .i64 e0.view, .int .i64 e0.client, .int .i64 e0.request, .int .i64 e0.dflt, .int .i64 e0.closed, .int .i64 e0.fuel, .int .i64 e0.stack, .slice E1 m1 d1, .slice E2 m2 d2] 100)).heap.size) E2 m2 d2 e0.drop from ⟨((HRW.out.2.1.chg (CV.out.alloc _) (fun _ _ h => h)).mono (fun j hj => ⟨⟨.inr hj.1, hj.2⟩, fun e => by have h1 := HVS.out j e; have h2 := SZ.out; have h3 := hj.2; omega, by have h1 := (CV.out.alloc (.cells #[.int .i64 e0.view, .int .i64 e0.client, .int .i64 e0.request, .int .i64 e0.dflt, .int .i64 e0.closed, .int .i64 e0.fuel, .int .i64 e0.stack, .slice E1 m1 d1, .slice E2 m2 d2] 100)).size; have h2 := SZ.out; have h3 := hj.2; omega⟩)), ((HRW.out.2.2.chg (CV.out.alloc _) (fun _ _ h => h)).mono (fun j hj => ⟨⟨.inr hj.1, hj.2⟩, fun e => by have h1 := HVS.out j e; have h2 := SZ.out; have h3 := hj.2; omega, by have h1 := (CV.out.alloc (.cells #[.int .i64 e0.view, .int .i64 e0.client, .int .i64 e0.request, .int .i64 e0.dflt, .int .i64 e0.closed, .int .i64 e0.fuel, .int .i64 e0.stack, .slice E1 m1 d1, .slice E2 m2 d2] 100)).size; have h2 := SZ.out; have h3 := hj.2; omega⟩))⟩)) | ((with_reducible refine at_dst (N := 54) rfl ?_); clear y0 y1 y2 y3 y4 y5 y6 y7 y8 S_0 S_f0 S_1 S_f1 S_2 S_f2 S_3 S_f3 S_4 S_f4 R_0 R_1 R_2 R_3 T_0 T_f0 T_1 T_f1 T_2 T_f2 T_3 T_f3 T_4 T_f4; refine vec_list (d := entryK) _ rfl (.tmp 48) (.tmp 53) 39 100 (.agg #[.int .i64 0, .int .i64 0, .int .i64 0, .int .i64 0, .int .i64 0, .int .i64 0, .int .i64 0, .slice none 0 0, .slice none 0 0]) 104 rfl Try.underlying39 infoEntry2 rfl (by decide) (by decide) (.slice A1 n cc1) rfl (HV.out.chg ((Chg.refl (fun _ => False) w1).alloc (.cells #[.int .i64 e0.view, .int .i64 e0.client, .int .i64 e0.request, .int .i64 e0.dflt, .int .i64 e0.closed, .int .i64 e0.fuel, .int .i64 e0.stack, .slice E1 m1 d1, .slice E2 m2 d2] 100)) (fun _ _ h => h) (fun _ _ _ _ h => h)) (some ⟨w1.heap.size, 0, none⟩) 1 1 (ys := [e0]) rfl (by simp) (by omega) rfl (new_sees w1 _ _) (Ty.Row.one_ (entry_shut (A1 := E1) (n1 := m1) (c1 := d1) (A2 := E2) (n2 := m2) (c2 := d2) ⟨HRW.out.1, HMV.out.1, HMV.out.2⟩)) (by rw [← L1.out]; omega) ?_; rw [← L1.out]; intro A2 cc2 w2 h1 h2; have HV2 := hid h1; have CV2 := hid (show Chg (fun _ => False) w0 w2 from (CV.out.alloc _).trans h2 (fun j hj hl => by have h3 := HVS.out j hj; omega)); have ltw2 : w.heap.size < w2.heap.size := (by have h3 := CV2.out.size; have h4 := SZ.out; omega); replace BS := hid (show w2.heap[w.heap.size]? = _ from (h2.blk (((Chg.refl (fun _ => False) w1).alloc _).blk BS.out (fun h => h)) (fun hj => by have h3 := HVS.out _ hj; have h4 := SZ.out; omega))); replace BT := hid (show w2.heap[b3]? = _ from (h2.blk (((Chg.refl (fun _ => False) w1).alloc _).blk BT.out (fun h => h)) (fun hj => by have h3 := HVS.out _ hj; have h4 := SZ.out; have h5 := Hb3.out; omega))); clear h1 h2; have S_0 : w2.cell? ⟨w.heap.size, 0, none⟩ = some (.int .i64 s.view) := (cellAt BS.out 0).trans rfl; have S_f0 : w2.frozen? ⟨w.heap.size, 0, none⟩ = false := freeAt BS.out 0; have S_1 : w2.cell? ⟨w.heap.size, 1, none⟩ = some (.int .i64 s.normal) := (cellAt BS.out 1).trans rfl; have S_f1 : w2.frozen? ⟨w.heap.size, 1, none⟩ = false := freeAt BS.out 1; have S_2 : w2.cell? ⟨w.heap.size, 2, none⟩ = some (.int .i64 s.commit) := (cellAt BS.out 2).trans rfl; have S_f2 : w2.frozen? ⟨w.heap.size, 2, none⟩ = false := freeAt BS.out 2; have S_3 : w2.cell? ⟨w.heap.size, 3, none⟩ = some (.int .i64 s.active) := (cellAt BS.out 3).trans rfl; have S_f3 : w2.frozen? ⟨w.heap.size, 3, none⟩ = false := freeAt BS.out 3; have S_4 : w2.cell? ⟨w.heap.size, 4, none⟩ = some (.slice A n c) := (cellAt BS.out 4).trans rfl; have S_f4 : w2.frozen? ⟨w.heap.size, 4, none⟩ = false := freeAt BS.out 4; have T_0 : w2.cell? ⟨b3, 0, none⟩ = some (.int .i64 0) := (cellAt BT.out 0).trans rfl; have T_f0 : w2.frozen? ⟨b3, 0, none⟩ = false := freeAt BT.out 0; have T_1 : w2.cell? ⟨b3, 1, none⟩ = some (.int .i64 0) := (cellAt BT.out 1).trans rfl; have T_f1 : w2.frozen? ⟨b3, 1, none⟩ = false := freeAt BT.out 1; have T_2 : w2.cell? ⟨b3, 2, none⟩ = some (.int .i64 0) := (cellAt BT.out 2).trans rfl; have T_f2 : w2.frozen? ⟨b3, 2, none⟩ = false := freeAt BT.out 2; have T_3 : w2.cell? ⟨b3, 3, none⟩ = some (.int .i64 0) := (cellAt BT.out 3).trans rfl; have T_f3 : w2.frozen? ⟨b3, 3, none⟩ = false := freeAt BT.out 3; have T_4 : w2.cell? ⟨b3, 4, none⟩ = some (.slice none 0 0) := (cellAt BT.out 4).trans rfl; have T_f4 : w2.frozen? ⟨b3, 4, none⟩ = false := freeAt BT.out 4))
    have HLOG2 := hid (show Ty.At entryK w2 (fun j => ((R j ∨ R2 j) ∧ j < w.heap.size ∨ w0.heap.size ≤ j) ∧ j < w2.heap.size) A2 (n + 1) cc2 (s.log ++ [e0]) from HV2.out.at.bound.mono (fun j hj => ⟨by have h1 := CW0.out.size; have h2 := CV.out.size; rcases hj.1 with ((h | h) | h) | h; exact .inr h; exact .inr (by omega); exact .inr (by have h3 := ((Chg.refl (fun _ => False) w1).alloc (.cells #[.int .i64 e0.view, .int .i64 e0.client, .int .i64 e0.request, .int .i64 e0.dflt, .int .i64 e0.closed, .int .i64 e0.fuel, .int .i64 e0.stack, .slice E1 m1 d1, .slice E2 m2 d2] 100)).size; omega); exact .inl h, hj.2⟩))
    clear S_0 S_f0 S_1 S_f1 S_2 S_f2 S_3 S_f3 S_4 S_f4 T_0 T_f0 T_1 T_f1 T_2 T_f2 T_3 T_f3 T_4 T_f4
    have G := hid (show refApplyP s ⟨2, a, b, [e0]⟩ = ({ s with log := s.log ++ [e0] }, 0) by unfold refApplyP; rw [show applyS s ⟨2, a, b, [e0]⟩ = some { s with log := s.log ++ [e0] } by rw [applyS2, if_pos (by have := L1.out; omega)]])
    obtain ⟨W2, hW2⟩ : ∃ W, W = (w2.setCell ⟨w.heap.size, 4, none⟩ (.slice A2 (n + 1) cc2)) := ⟨_, rfl⟩
    rw [← hW2]
    have D2 := hid (show Chg (fun j => j = w.heap.size) w2 W2 by rw [hW2]; exact ((Chg.refl (fun j => j = w.heap.size) w2).set (p := ⟨w.heap.size, 4, none⟩) (fun _ => rfl) _))
    replace BT := hid (D2.out.blk BT.out (by omega))
    clear hW2
    obtain ⟨PB, PC⟩ := put_blk [(.int .i64 s.view : Value), .int .i64 s.normal, .int .i64 s.commit, .int .i64 s.active, .slice A2 (n + 1) cc2] W2 _ BT.out rfl
    generalize hW : (((((W2.setCell ⟨b3, 0, none⟩ (.int .i64 s.view)).setCell ⟨b3, 1, none⟩ (.int .i64 s.normal)).setCell ⟨b3, 2, none⟩ (.int .i64 s.commit)).setCell ⟨b3, 3, none⟩ (.int .i64 s.active)).setCell ⟨b3, 4, none⟩ (.slice A2 (n + 1) cc2)) = W
    have BT2 := hid (show W.heap[b3]? = some (.cells #[.int .i64 s.view, .int .i64 s.normal, .int .i64 s.commit, .int .i64 s.active, .slice A2 (n + 1) cc2] 41 (0, 0)) by rw [← hW]; exact PB)
    have CW := hid (show Chg (fun k => k = b3) W2 W by rw [← hW]; exact PC)
    clear PB PC hW
    have z0 : W.cell? ⟨b3, 0, none⟩ = some (.int .i64 s.view) := (cellAt BT2.out 0).trans rfl
    have z1 : W.cell? ⟨b3, 1, none⟩ = some (.int .i64 s.normal) := (cellAt BT2.out 1).trans rfl
    have z2 : W.cell? ⟨b3, 2, none⟩ = some (.int .i64 s.commit) := (cellAt BT2.out 2).trans rfl
    have z3 : W.cell? ⟨b3, 3, none⟩ = some (.int .i64 s.active) := (cellAt BT2.out 3).trans rfl
    have z4 : W.cell? ⟨b3, 4, none⟩ = some (.slice A2 (n + 1) cc2) := (cellAt BT2.out 4).trans rfl
    refine bodyPost_ret (v := .tuple #[.agg #[.int .i64 s.view, .int .i64 s.normal, .int .i64 s.commit, .int .i64 s.active, .slice A2 (n + 1) cc2], .int .i64 0]) (by simp [results, Try.results29, go_sem, z0, z1, z2, z3, z4]) rfl ?_
    have HAT := ((HLOG2.out.chg D2.out (fun j hj e => by have z := SZ.out; rcases hj.1 with h | h; exact absurd h.2 (by omega); omega)).chg CW.out (fun j hj e => by have z := SZ.out; have hb := Hb3.out; rcases hj.1 with h | h; exact absurd h.2 (by omega); omega)).mono (S' := fun j => ((R j ∨ R2 j) ∧ j < w.heap.size ∨ w.heap.size ≤ j) ∧ j < W.heap.size) (fun j hj => ⟨by have z := SZ.out; rcases hj.1 with h | h; exact .inl h; exact .inr (by omega), Nat.lt_of_lt_of_le hj.2 (Nat.le_trans D2.out.size CW.out.size)⟩)
    exact ⟨A2, (n + 1), cc2, by rw [G.out]; try rfl, by rw [G.out]; exact HAT, (((C0.out.trans CV2.out (fun _ h _ => h)).trans (S := fun _ => False) D2.out (fun j hj hl => by omega)).trans CW.out (fun j hj hl => by have := Hb3.out; omega))⟩
  · by_cases c1 : a < s.commit
    case pos =>
      have G := hid (show refApplyP s ⟨3, a, b, log⟩ = (st0, 54) by unfold refApplyP; rw [show applyS s ⟨3, a, b, log⟩ = none by rw [applyS3, if_neg (fun h => by have := h.1; have := L1.out; omega)]])
      go_enter Try.func29, Try.ntmps29
      go_wp2_with (first | ((with_reducible refine at_dst (N := 10) rfl ?_); rw [← hb4, ← hb3, ← hb2, ← hw0, ← hW0]; clear hw0 hW0 hb4 hb2 hb3; refine vec_list (d := entryK) _ rfl (.tmp 7) (.tmp 9) 39 100 (.agg #[.int .i64 0, .int .i64 0, .int .i64 0, .int .i64 0, .int .i64 0, .int .i64 0, .int .i64 0, .slice none 0 0, .slice none 0 0]) 104 rfl Try.underlying39 infoEntry2 rfl (by decide) (by decide) (.slice (some ⟨b4, 0, none⟩) 0 0) rfl VN.out A n c (ys := s.log) rfl Q4.out Q2.out Q1.out Q5.out (Q6.out.mono (fun j hj => ⟨⟨.inl hj.1, hj.2⟩, by simp [Value.ownBlock]; have h1 := HB4.out; have h2 := SZ.out; have h3 := hj.2; omega, by have h1 := CW0.out.size; have h2 := SZ.out; have h3 := hj.2; omega⟩)) (by simp; omega) ?_; simp only [List.length_nil, Nat.zero_add, List.nil_append]; intro A1 cc1 w1 g1 g2; have HV := hid g1; have CV := hid (show Chg (fun _ => False) w0 w1 from CW0.out.trans g2 (fun j hj hl => by simp [Value.ownBlock] at hj; have h1 := HB4.out; omega)); clear g1 g2; replace BS := hid (CV.out.blk BS.out (fun h => h)); replace BR := hid (CV.out.blk BR.out (fun h => h)); replace BT := hid (CV.out.blk BT.out (fun h => h)); have HLOG := hid (show Ty.At entryK w1 (fun j => ((R j ∨ R2 j) ∧ j < w.heap.size ∨ w0.heap.size ≤ j) ∧ j < w1.heap.size) A1 n cc1 s.log from HV.out.at.bound.mono (fun j hj => ⟨by have h1 := CW0.out.size; rcases hj.1 with (h | h) | h; exact .inr h; exact .inr (by omega); exact .inl h, hj.2⟩)); have S_0 : w1.cell? ⟨w.heap.size, 0, none⟩ = some (.int .i64 s.view) := (cellAt BS.out 0).trans rfl; have S_f0 : w1.frozen? ⟨w.heap.size, 0, none⟩ = false := freeAt BS.out 0; have S_1 : w1.cell? ⟨w.heap.size, 1, none⟩ = some (.int .i64 s.normal) := (cellAt BS.out 1).trans rfl; have S_f1 : w1.frozen? ⟨w.heap.size, 1, none⟩ = false := freeAt BS.out 1; have S_2 : w1.cell? ⟨w.heap.size, 2, none⟩ = some (.int .i64 s.commit) := (cellAt BS.out 2).trans rfl; have S_f2 : w1.frozen? ⟨w.heap.size, 2, none⟩ = false := freeAt BS.out 2; have S_3 : w1.cell? ⟨w.heap.size, 3, none⟩ = some (.int .i64 s.active) := (cellAt BS.out 3).trans rfl; have S_f3 : w1.frozen? ⟨w.heap.size, 3, none⟩ = false := freeAt BS.out 3; have S_4 : w1.cell? ⟨w.heap.size, 4, none⟩ = some (.slice A n c) := (cellAt BS.out 4).trans rfl; have S_f4 : w1.frozen? ⟨w.heap.size, 4, none⟩ = false := freeAt BS.out 4; have R_0 : w1.cell? ⟨b2, 0, none⟩ = some (.int .i64 3) := (cellAt BR.out 0).trans rfl; have R_1 : w1.cell? ⟨b2, 1, none⟩ = some (.int .i64 a) := (cellAt BR.out 1).trans rfl; have R_2 : w1.cell? ⟨b2, 2, none⟩ = some (.int .i64 b) := (cellAt BR.out 2).trans rfl; have R_3 : w1.cell? ⟨b2, 3, none⟩ = some (.slice B k d) := (cellAt BR.out 3).trans rfl; have T_0 : w1.cell? ⟨b3, 0, none⟩ = some (.int .i64 0) := (cellAt BT.out 0).trans rfl; have T_f0 : w1.frozen? ⟨b3, 0, none⟩ = false := freeAt BT.out 0; have T_1 : w1.cell? ⟨b3, 1, none⟩ = some (.int .i64 0) := (cellAt BT.out 1).trans rfl; have T_f1 : w1.frozen? ⟨b3, 1, none⟩ = false := freeAt BT.out 1; have T_2 : w1.cell? ⟨b3, 2, none⟩ = some (.int .i64 0) := (cellAt BT.out 2).trans rfl; have T_f2 : w1.frozen? ⟨b3, 2, none⟩ = false := freeAt BT.out 2; have T_3 : w1.cell? ⟨b3, 3, none⟩ = some (.int .i64 0) := (cellAt BT.out 3).trans rfl; have T_f3 : w1.frozen? ⟨b3, 3, none⟩ = false := freeAt BT.out 3; have T_4 : w1.cell? ⟨b3, 4, none⟩ = some (.slice none 0 0) := (cellAt BT.out 4).trans rfl; have T_f4 : w1.frozen? ⟨b3, 4, none⟩ = false := freeAt BT.out 4; have ltw : w.heap.size < w1.heap.size := lt_of_blk BS.out))
      clear S_0 S_f0 S_1 S_f1 S_2 S_f2 S_3 S_f3 S_4 S_f4 R_0 R_1 R_2 R_3 T_0 T_f0 T_1 T_f1 T_2 T_f2 T_3 T_f3 T_4 T_f4
      obtain ⟨PB, PC⟩ := put_blk [(.int .i64 0 : Value), .int .i64 0, .int .i64 0, .int .i64 0, .slice none 0 0] w1 _ BT.out rfl
      generalize hW : (((((w1.setCell ⟨b3, 0, none⟩ (.int .i64 0)).setCell ⟨b3, 1, none⟩ (.int .i64 0)).setCell ⟨b3, 2, none⟩ (.int .i64 0)).setCell ⟨b3, 3, none⟩ (.int .i64 0)).setCell ⟨b3, 4, none⟩ (.slice none 0 0)) = W
      have BT2 := hid (show W.heap[b3]? = some (.cells #[.int .i64 0, .int .i64 0, .int .i64 0, .int .i64 0, .slice none 0 0] 41 (0, 0)) by rw [← hW]; exact PB)
      have CW := hid (show Chg (fun k => k = b3) w1 W by rw [← hW]; exact PC)
      clear PB PC hW
      have z0 : W.cell? ⟨b3, 0, none⟩ = some (.int .i64 0) := (cellAt BT2.out 0).trans rfl
      have z1 : W.cell? ⟨b3, 1, none⟩ = some (.int .i64 0) := (cellAt BT2.out 1).trans rfl
      have z2 : W.cell? ⟨b3, 2, none⟩ = some (.int .i64 0) := (cellAt BT2.out 2).trans rfl
      have z3 : W.cell? ⟨b3, 3, none⟩ = some (.int .i64 0) := (cellAt BT2.out 3).trans rfl
      have z4 : W.cell? ⟨b3, 4, none⟩ = some (.slice none 0 0) := (cellAt BT2.out 4).trans rfl
      refine bodyPost_ret (v := .tuple #[.agg #[.int .i64 0, .int .i64 0, .int .i64 0, .int .i64 0, .slice none 0 0], .int .i64 54]) (by simp [results, Try.results29, go_sem, z0, z1, z2, z3, z4]) rfl ?_
      exact ⟨none, 0, 0, by rw [G.out]; rfl, by rw [G.out]; exact at_nil_ _ _ _, ((C0.out.trans CV.out (fun _ h _ => h)).trans CW.out (fun j hj hl => by have := Hb2.out; have := Hb3.out; omega))⟩
    by_cases c2 : (n : Int) < a
    case pos =>
      have G := hid (show refApplyP s ⟨3, a, b, log⟩ = (st0, 54) by unfold refApplyP; rw [show applyS s ⟨3, a, b, log⟩ = none by rw [applyS3, if_neg (fun h => by have := h.2; have := L1.out; omega)]])
      go_enter Try.func29, Try.ntmps29
      go_wp2_with (first | ((with_reducible refine at_dst (N := 10) rfl ?_); rw [← hb4, ← hb3, ← hb2, ← hw0, ← hW0]; clear hw0 hW0 hb4 hb2 hb3; refine vec_list (d := entryK) _ rfl (.tmp 7) (.tmp 9) 39 100 (.agg #[.int .i64 0, .int .i64 0, .int .i64 0, .int .i64 0, .int .i64 0, .int .i64 0, .int .i64 0, .slice none 0 0, .slice none 0 0]) 104 rfl Try.underlying39 infoEntry2 rfl (by decide) (by decide) (.slice (some ⟨b4, 0, none⟩) 0 0) rfl VN.out A n c (ys := s.log) rfl Q4.out Q2.out Q1.out Q5.out (Q6.out.mono (fun j hj => ⟨⟨.inl hj.1, hj.2⟩, by simp [Value.ownBlock]; have h1 := HB4.out; have h2 := SZ.out; have h3 := hj.2; omega, by have h1 := CW0.out.size; have h2 := SZ.out; have h3 := hj.2; omega⟩)) (by simp; omega) ?_; simp only [List.length_nil, Nat.zero_add, List.nil_append]; intro A1 cc1 w1 g1 g2; have HV := hid g1; have CV := hid (show Chg (fun _ => False) w0 w1 from CW0.out.trans g2 (fun j hj hl => by simp [Value.ownBlock] at hj; have h1 := HB4.out; omega)); clear g1 g2; replace BS := hid (CV.out.blk BS.out (fun h => h)); replace BR := hid (CV.out.blk BR.out (fun h => h)); replace BT := hid (CV.out.blk BT.out (fun h => h)); have HLOG := hid (show Ty.At entryK w1 (fun j => ((R j ∨ R2 j) ∧ j < w.heap.size ∨ w0.heap.size ≤ j) ∧ j < w1.heap.size) A1 n cc1 s.log from HV.out.at.bound.mono (fun j hj => ⟨by have h1 := CW0.out.size; rcases hj.1 with (h | h) | h; exact .inr h; exact .inr (by omega); exact .inl h, hj.2⟩)); have S_0 : w1.cell? ⟨w.heap.size, 0, none⟩ = some (.int .i64 s.view) := (cellAt BS.out 0).trans rfl; have S_f0 : w1.frozen? ⟨w.heap.size, 0, none⟩ = false := freeAt BS.out 0; have S_1 : w1.cell? ⟨w.heap.size, 1, none⟩ = some (.int .i64 s.normal) := (cellAt BS.out 1).trans rfl; have S_f1 : w1.frozen? ⟨w.heap.size, 1, none⟩ = false := freeAt BS.out 1; have S_2 : w1.cell? ⟨w.heap.size, 2, none⟩ = some (.int .i64 s.commit) := (cellAt BS.out 2).trans rfl; have S_f2 : w1.frozen? ⟨w.heap.size, 2, none⟩ = false := freeAt BS.out 2; have S_3 : w1.cell? ⟨w.heap.size, 3, none⟩ = some (.int .i64 s.active) := (cellAt BS.out 3).trans rfl; have S_f3 : w1.frozen? ⟨w.heap.size, 3, none⟩ = false := freeAt BS.out 3; have S_4 : w1.cell? ⟨w.heap.size, 4, none⟩ = some (.slice A n c) := (cellAt BS.out 4).trans rfl; have S_f4 : w1.frozen? ⟨w.heap.size, 4, none⟩ = false := freeAt BS.out 4; have R_0 : w1.cell? ⟨b2, 0, none⟩ = some (.int .i64 3) := (cellAt BR.out 0).trans rfl; have R_1 : w1.cell? ⟨b2, 1, none⟩ = some (.int .i64 a) := (cellAt BR.out 1).trans rfl; have R_2 : w1.cell? ⟨b2, 2, none⟩ = some (.int .i64 b) := (cellAt BR.out 2).trans rfl; have R_3 : w1.cell? ⟨b2, 3, none⟩ = some (.slice B k d) := (cellAt BR.out 3).trans rfl; have T_0 : w1.cell? ⟨b3, 0, none⟩ = some (.int .i64 0) := (cellAt BT.out 0).trans rfl; have T_f0 : w1.frozen? ⟨b3, 0, none⟩ = false := freeAt BT.out 0; have T_1 : w1.cell? ⟨b3, 1, none⟩ = some (.int .i64 0) := (cellAt BT.out 1).trans rfl; have T_f1 : w1.frozen? ⟨b3, 1, none⟩ = false := freeAt BT.out 1; have T_2 : w1.cell? ⟨b3, 2, none⟩ = some (.int .i64 0) := (cellAt BT.out 2).trans rfl; have T_f2 : w1.frozen? ⟨b3, 2, none⟩ = false := freeAt BT.out 2; have T_3 : w1.cell? ⟨b3, 3, none⟩ = some (.int .i64 0) := (cellAt BT.out 3).trans rfl; have T_f3 : w1.frozen? ⟨b3, 3, none⟩ = false := freeAt BT.out 3; have T_4 : w1.cell? ⟨b3, 4, none⟩ = some (.slice none 0 0) := (cellAt BT.out 4).trans rfl; have T_f4 : w1.frozen? ⟨b3, 4, none⟩ = false := freeAt BT.out 4; have ltw : w.heap.size < w1.heap.size := lt_of_blk BS.out))
      clear S_0 S_f0 S_1 S_f1 S_2 S_f2 S_3 S_f3 S_4 S_f4 R_0 R_1 R_2 R_3 T_0 T_f0 T_1 T_f1 T_2 T_f2 T_3 T_f3 T_4 T_f4
      obtain ⟨PB, PC⟩ := put_blk [(.int .i64 0 : Value), .int .i64 0, .int .i64 0, .int .i64 0, .slice none 0 0] w1 _ BT.out rfl
      generalize hW : (((((w1.setCell ⟨b3, 0, none⟩ (.int .i64 0)).setCell ⟨b3, 1, none⟩ (.int .i64 0)).setCell ⟨b3, 2, none⟩ (.int .i64 0)).setCell ⟨b3, 3, none⟩ (.int .i64 0)).setCell ⟨b3, 4, none⟩ (.slice none 0 0)) = W
      have BT2 := hid (show W.heap[b3]? = some (.cells #[.int .i64 0, .int .i64 0, .int .i64 0, .int .i64 0, .slice none 0 0] 41 (0, 0)) by rw [← hW]; exact PB)
      have CW := hid (show Chg (fun k => k = b3) w1 W by rw [← hW]; exact PC)
      clear PB PC hW
      have z0 : W.cell? ⟨b3, 0, none⟩ = some (.int .i64 0) := (cellAt BT2.out 0).trans rfl
      have z1 : W.cell? ⟨b3, 1, none⟩ = some (.int .i64 0) := (cellAt BT2.out 1).trans rfl
      have z2 : W.cell? ⟨b3, 2, none⟩ = some (.int .i64 0) := (cellAt BT2.out 2).trans rfl
      have z3 : W.cell? ⟨b3, 3, none⟩ = some (.int .i64 0) := (cellAt BT2.out 3).trans rfl
      have z4 : W.cell? ⟨b3, 4, none⟩ = some (.slice none 0 0) := (cellAt BT2.out 4).trans rfl
      refine bodyPost_ret (v := .tuple #[.agg #[.int .i64 0, .int .i64 0, .int .i64 0, .int .i64 0, .slice none 0 0], .int .i64 54]) (by simp [results, Try.results29, go_sem, z0, z1, z2, z3, z4]) rfl ?_
      exact ⟨none, 0, 0, by rw [G.out]; rfl, by rw [G.out]; exact at_nil_ _ _ _, ((C0.out.trans CV.out (fun _ h _ => h)).trans CW.out (fun j hj hl => by have := Hb2.out; have := Hb3.out; omega))⟩
    obtain ⟨m, rfl⟩ : ∃ m : Nat, a = (m : Int) := ⟨a.toNat, by have := HRL.out.1.2.1.1; (try simp only at this); omega⟩
    have hmn : m ≤ n := by omega
    obtain ⟨ie, hie, _⟩ := info_parts infoEntry2
    go_enter Try.func29, Try.ntmps29
    go_wp2_with (first | ((with_reducible refine at_dst (N := 10) rfl ?_); rw [← hb4, ← hb3, ← hb2, ← hw0, ← hW0]; clear hw0 hW0 hb4 hb2 hb3; refine vec_list (d := entryK) _ rfl (.tmp 7) (.tmp 9) 39 100 (.agg #[.int .i64 0, .int .i64 0, .int .i64 0, .int .i64 0, .int .i64 0, .int .i64 0, .int .i64 0, .slice none 0 0, .slice none 0 0]) 104 rfl Try.underlying39 infoEntry2 rfl (by decide) (by decide) (.slice (some ⟨b4, 0, none⟩) 0 0) rfl VN.out A n c (ys := s.log) rfl Q4.out Q2.out Q1.out Q5.out (Q6.out.mono (fun j hj => ⟨⟨.inl hj.1, hj.2⟩, by simp [Value.ownBlock]; have h1 := HB4.out; have h2 := SZ.out; have h3 := hj.2; omega, by have h1 := CW0.out.size; have h2 := SZ.out; have h3 := hj.2; omega⟩)) (by simp; omega) ?_; simp only [List.length_nil, Nat.zero_add, List.nil_append]; intro A1 cc1 w1 g1 g2; have HV := hid g1; have CV := hid (show Chg (fun _ => False) w0 w1 from CW0.out.trans g2 (fun j hj hl => by simp [Value.ownBlock] at hj; have h1 := HB4.out; omega)); clear g1 g2; replace BS := hid (CV.out.blk BS.out (fun h => h)); replace BR := hid (CV.out.blk BR.out (fun h => h)); replace BT := hid (CV.out.blk BT.out (fun h => h)); have HLOG := hid (show Ty.At entryK w1 (fun j => ((R j ∨ R2 j) ∧ j < w.heap.size ∨ w0.heap.size ≤ j) ∧ j < w1.heap.size) A1 n cc1 s.log from HV.out.at.bound.mono (fun j hj => ⟨by have h1 := CW0.out.size; rcases hj.1 with (h | h) | h; exact .inr h; exact .inr (by omega); exact .inl h, hj.2⟩)); have S_0 : w1.cell? ⟨w.heap.size, 0, none⟩ = some (.int .i64 s.view) := (cellAt BS.out 0).trans rfl; have S_f0 : w1.frozen? ⟨w.heap.size, 0, none⟩ = false := freeAt BS.out 0; have S_1 : w1.cell? ⟨w.heap.size, 1, none⟩ = some (.int .i64 s.normal) := (cellAt BS.out 1).trans rfl; have S_f1 : w1.frozen? ⟨w.heap.size, 1, none⟩ = false := freeAt BS.out 1; have S_2 : w1.cell? ⟨w.heap.size, 2, none⟩ = some (.int .i64 s.commit) := (cellAt BS.out 2).trans rfl; have S_f2 : w1.frozen? ⟨w.heap.size, 2, none⟩ = false := freeAt BS.out 2; have S_3 : w1.cell? ⟨w.heap.size, 3, none⟩ = some (.int .i64 s.active) := (cellAt BS.out 3).trans rfl; have S_f3 : w1.frozen? ⟨w.heap.size, 3, none⟩ = false := freeAt BS.out 3; have S_4 : w1.cell? ⟨w.heap.size, 4, none⟩ = some (.slice A n c) := (cellAt BS.out 4).trans rfl; have S_f4 : w1.frozen? ⟨w.heap.size, 4, none⟩ = false := freeAt BS.out 4; have R_0 : w1.cell? ⟨b2, 0, none⟩ = some (.int .i64 3) := (cellAt BR.out 0).trans rfl; have R_1 : w1.cell? ⟨b2, 1, none⟩ = some (.int .i64 (m : Int)) := (cellAt BR.out 1).trans rfl; have R_2 : w1.cell? ⟨b2, 2, none⟩ = some (.int .i64 b) := (cellAt BR.out 2).trans rfl; have R_3 : w1.cell? ⟨b2, 3, none⟩ = some (.slice B k d) := (cellAt BR.out 3).trans rfl; have T_0 : w1.cell? ⟨b3, 0, none⟩ = some (.int .i64 0) := (cellAt BT.out 0).trans rfl; have T_f0 : w1.frozen? ⟨b3, 0, none⟩ = false := freeAt BT.out 0; have T_1 : w1.cell? ⟨b3, 1, none⟩ = some (.int .i64 0) := (cellAt BT.out 1).trans rfl; have T_f1 : w1.frozen? ⟨b3, 1, none⟩ = false := freeAt BT.out 1; have T_2 : w1.cell? ⟨b3, 2, none⟩ = some (.int .i64 0) := (cellAt BT.out 2).trans rfl; have T_f2 : w1.frozen? ⟨b3, 2, none⟩ = false := freeAt BT.out 2; have T_3 : w1.cell? ⟨b3, 3, none⟩ = some (.int .i64 0) := (cellAt BT.out 3).trans rfl; have T_f3 : w1.frozen? ⟨b3, 3, none⟩ = false := freeAt BT.out 3; have T_4 : w1.cell? ⟨b3, 4, none⟩ = some (.slice none 0 0) := (cellAt BT.out 4).trans rfl; have T_f4 : w1.frozen? ⟨b3, 4, none⟩ = false := freeAt BT.out 4; have ltw : w.heap.size < w1.heap.size := lt_of_blk BS.out; have hcut := cut_to (P := Try.prog) 39 100 .i64 Try.underlying39 hie A1 n cc1 m (by have := HLOG.out.2.1; omega)))
    have HLOG2 := hid (HLOG.out.to_ hmn)
    clear S_0 S_f0 S_1 S_f1 S_2 S_f2 S_3 S_f3 S_4 S_f4 R_0 R_1 R_2 R_3 T_0 T_f0 T_1 T_f1 T_2 T_f2 T_3 T_f3 T_4 T_f4
    have G := hid (show refApplyP s ⟨3, (m : Int), b, log⟩ = ({ s with log := s.log.take m }, 0) by unfold refApplyP; rw [show applyS s ⟨3, (m : Int), b, log⟩ = some { s with log := s.log.take m } by rw [applyS3, if_pos ⟨by omega, by have := L1.out; omega⟩]; rfl])
    obtain ⟨W2, hW2⟩ : ∃ W, W = (w1.setCell ⟨w.heap.size, 4, none⟩ (.slice A1 m cc1)) := ⟨_, rfl⟩
    rw [← hW2]
    have D2 := hid (show Chg (fun j => j = w.heap.size) w1 W2 by rw [hW2]; exact ((Chg.refl (fun j => j = w.heap.size) w1).set (p := ⟨w.heap.size, 4, none⟩) (fun _ => rfl) _))
    replace BT := hid (D2.out.blk BT.out (by omega))
    clear hW2
    obtain ⟨PB, PC⟩ := put_blk [(.int .i64 s.view : Value), .int .i64 s.normal, .int .i64 s.commit, .int .i64 s.active, .slice A1 m cc1] W2 _ BT.out rfl
    generalize hW : (((((W2.setCell ⟨b3, 0, none⟩ (.int .i64 s.view)).setCell ⟨b3, 1, none⟩ (.int .i64 s.normal)).setCell ⟨b3, 2, none⟩ (.int .i64 s.commit)).setCell ⟨b3, 3, none⟩ (.int .i64 s.active)).setCell ⟨b3, 4, none⟩ (.slice A1 m cc1)) = W
    have BT2 := hid (show W.heap[b3]? = some (.cells #[.int .i64 s.view, .int .i64 s.normal, .int .i64 s.commit, .int .i64 s.active, .slice A1 m cc1] 41 (0, 0)) by rw [← hW]; exact PB)
    have CW := hid (show Chg (fun k => k = b3) W2 W by rw [← hW]; exact PC)
    clear PB PC hW
    have z0 : W.cell? ⟨b3, 0, none⟩ = some (.int .i64 s.view) := (cellAt BT2.out 0).trans rfl
    have z1 : W.cell? ⟨b3, 1, none⟩ = some (.int .i64 s.normal) := (cellAt BT2.out 1).trans rfl
    have z2 : W.cell? ⟨b3, 2, none⟩ = some (.int .i64 s.commit) := (cellAt BT2.out 2).trans rfl
    have z3 : W.cell? ⟨b3, 3, none⟩ = some (.int .i64 s.active) := (cellAt BT2.out 3).trans rfl
    have z4 : W.cell? ⟨b3, 4, none⟩ = some (.slice A1 m cc1) := (cellAt BT2.out 4).trans rfl
    refine bodyPost_ret (v := .tuple #[.agg #[.int .i64 s.view, .int .i64 s.normal, .int .i64 s.commit, .int .i64 s.active, .slice A1 m cc1], .int .i64 0]) (by simp [results, Try.results29, go_sem, z0, z1, z2, z3, z4]) rfl ?_
    have HAT := ((HLOG2.out.chg D2.out (fun j hj e => by have z := SZ.out; rcases hj.1 with h | h; exact absurd h.2 (by omega); omega)).chg CW.out (fun j hj e => by have z := SZ.out; have hb := Hb3.out; rcases hj.1 with h | h; exact absurd h.2 (by omega); omega)).mono (S' := fun j => ((R j ∨ R2 j) ∧ j < w.heap.size ∨ w.heap.size ≤ j) ∧ j < W.heap.size) (fun j hj => ⟨by have z := SZ.out; rcases hj.1 with h | h; exact .inl h; exact .inr (by omega), Nat.lt_of_lt_of_le hj.2 (Nat.le_trans D2.out.size CW.out.size)⟩)
    exact ⟨A1, m, cc1, by rw [G.out]; try rfl, by rw [G.out]; exact HAT, (((C0.out.trans CV.out (fun _ h _ => h)).trans (S := fun _ => False) D2.out (fun j hj hl => by omega)).trans CW.out (fun j hj hl => by have := Hb3.out; omega))⟩
  · by_cases c1 : a < s.commit
    case pos =>
      have G := hid (show refApplyP s ⟨4, a, b, log⟩ = (st0, 54) by unfold refApplyP; rw [show applyS s ⟨4, a, b, log⟩ = none by rw [applyS4, if_neg (fun h => by have := h.1; have := L1.out; omega)]])
      go_enter Try.func29, Try.ntmps29
      go_wp2_with (first | ((with_reducible refine at_dst (N := 10) rfl ?_); rw [← hb4, ← hb3, ← hb2, ← hw0, ← hW0]; clear hw0 hW0 hb4 hb2 hb3; refine vec_list (d := entryK) _ rfl (.tmp 7) (.tmp 9) 39 100 (.agg #[.int .i64 0, .int .i64 0, .int .i64 0, .int .i64 0, .int .i64 0, .int .i64 0, .int .i64 0, .slice none 0 0, .slice none 0 0]) 104 rfl Try.underlying39 infoEntry2 rfl (by decide) (by decide) (.slice (some ⟨b4, 0, none⟩) 0 0) rfl VN.out A n c (ys := s.log) rfl Q4.out Q2.out Q1.out Q5.out (Q6.out.mono (fun j hj => ⟨⟨.inl hj.1, hj.2⟩, by simp [Value.ownBlock]; have h1 := HB4.out; have h2 := SZ.out; have h3 := hj.2; omega, by have h1 := CW0.out.size; have h2 := SZ.out; have h3 := hj.2; omega⟩)) (by simp; omega) ?_; simp only [List.length_nil, Nat.zero_add, List.nil_append]; intro A1 cc1 w1 g1 g2; have HV := hid g1; have CV := hid (show Chg (fun _ => False) w0 w1 from CW0.out.trans g2 (fun j hj hl => by simp [Value.ownBlock] at hj; have h1 := HB4.out; omega)); clear g1 g2; replace BS := hid (CV.out.blk BS.out (fun h => h)); replace BR := hid (CV.out.blk BR.out (fun h => h)); replace BT := hid (CV.out.blk BT.out (fun h => h)); have HLOG := hid (show Ty.At entryK w1 (fun j => ((R j ∨ R2 j) ∧ j < w.heap.size ∨ w0.heap.size ≤ j) ∧ j < w1.heap.size) A1 n cc1 s.log from HV.out.at.bound.mono (fun j hj => ⟨by have h1 := CW0.out.size; rcases hj.1 with (h | h) | h; exact .inr h; exact .inr (by omega); exact .inl h, hj.2⟩)); have S_0 : w1.cell? ⟨w.heap.size, 0, none⟩ = some (.int .i64 s.view) := (cellAt BS.out 0).trans rfl; have S_f0 : w1.frozen? ⟨w.heap.size, 0, none⟩ = false := freeAt BS.out 0; have S_1 : w1.cell? ⟨w.heap.size, 1, none⟩ = some (.int .i64 s.normal) := (cellAt BS.out 1).trans rfl; have S_f1 : w1.frozen? ⟨w.heap.size, 1, none⟩ = false := freeAt BS.out 1; have S_2 : w1.cell? ⟨w.heap.size, 2, none⟩ = some (.int .i64 s.commit) := (cellAt BS.out 2).trans rfl; have S_f2 : w1.frozen? ⟨w.heap.size, 2, none⟩ = false := freeAt BS.out 2; have S_3 : w1.cell? ⟨w.heap.size, 3, none⟩ = some (.int .i64 s.active) := (cellAt BS.out 3).trans rfl; have S_f3 : w1.frozen? ⟨w.heap.size, 3, none⟩ = false := freeAt BS.out 3; have S_4 : w1.cell? ⟨w.heap.size, 4, none⟩ = some (.slice A n c) := (cellAt BS.out 4).trans rfl; have S_f4 : w1.frozen? ⟨w.heap.size, 4, none⟩ = false := freeAt BS.out 4; have R_0 : w1.cell? ⟨b2, 0, none⟩ = some (.int .i64 4) := (cellAt BR.out 0).trans rfl; have R_1 : w1.cell? ⟨b2, 1, none⟩ = some (.int .i64 a) := (cellAt BR.out 1).trans rfl; have R_2 : w1.cell? ⟨b2, 2, none⟩ = some (.int .i64 b) := (cellAt BR.out 2).trans rfl; have R_3 : w1.cell? ⟨b2, 3, none⟩ = some (.slice B k d) := (cellAt BR.out 3).trans rfl; have T_0 : w1.cell? ⟨b3, 0, none⟩ = some (.int .i64 0) := (cellAt BT.out 0).trans rfl; have T_f0 : w1.frozen? ⟨b3, 0, none⟩ = false := freeAt BT.out 0; have T_1 : w1.cell? ⟨b3, 1, none⟩ = some (.int .i64 0) := (cellAt BT.out 1).trans rfl; have T_f1 : w1.frozen? ⟨b3, 1, none⟩ = false := freeAt BT.out 1; have T_2 : w1.cell? ⟨b3, 2, none⟩ = some (.int .i64 0) := (cellAt BT.out 2).trans rfl; have T_f2 : w1.frozen? ⟨b3, 2, none⟩ = false := freeAt BT.out 2; have T_3 : w1.cell? ⟨b3, 3, none⟩ = some (.int .i64 0) := (cellAt BT.out 3).trans rfl; have T_f3 : w1.frozen? ⟨b3, 3, none⟩ = false := freeAt BT.out 3; have T_4 : w1.cell? ⟨b3, 4, none⟩ = some (.slice none 0 0) := (cellAt BT.out 4).trans rfl; have T_f4 : w1.frozen? ⟨b3, 4, none⟩ = false := freeAt BT.out 4; have ltw : w.heap.size < w1.heap.size := lt_of_blk BS.out))
      clear S_0 S_f0 S_1 S_f1 S_2 S_f2 S_3 S_f3 S_4 S_f4 R_0 R_1 R_2 R_3 T_0 T_f0 T_1 T_f1 T_2 T_f2 T_3 T_f3 T_4 T_f4
      obtain ⟨PB, PC⟩ := put_blk [(.int .i64 0 : Value), .int .i64 0, .int .i64 0, .int .i64 0, .slice none 0 0] w1 _ BT.out rfl
      generalize hW : (((((w1.setCell ⟨b3, 0, none⟩ (.int .i64 0)).setCell ⟨b3, 1, none⟩ (.int .i64 0)).setCell ⟨b3, 2, none⟩ (.int .i64 0)).setCell ⟨b3, 3, none⟩ (.int .i64 0)).setCell ⟨b3, 4, none⟩ (.slice none 0 0)) = W
      have BT2 := hid (show W.heap[b3]? = some (.cells #[.int .i64 0, .int .i64 0, .int .i64 0, .int .i64 0, .slice none 0 0] 41 (0, 0)) by rw [← hW]; exact PB)
      have CW := hid (show Chg (fun k => k = b3) w1 W by rw [← hW]; exact PC)
      clear PB PC hW
      have z0 : W.cell? ⟨b3, 0, none⟩ = some (.int .i64 0) := (cellAt BT2.out 0).trans rfl
      have z1 : W.cell? ⟨b3, 1, none⟩ = some (.int .i64 0) := (cellAt BT2.out 1).trans rfl
      have z2 : W.cell? ⟨b3, 2, none⟩ = some (.int .i64 0) := (cellAt BT2.out 2).trans rfl
      have z3 : W.cell? ⟨b3, 3, none⟩ = some (.int .i64 0) := (cellAt BT2.out 3).trans rfl
      have z4 : W.cell? ⟨b3, 4, none⟩ = some (.slice none 0 0) := (cellAt BT2.out 4).trans rfl
      refine bodyPost_ret (v := .tuple #[.agg #[.int .i64 0, .int .i64 0, .int .i64 0, .int .i64 0, .slice none 0 0], .int .i64 54]) (by simp [results, Try.results29, go_sem, z0, z1, z2, z3, z4]) rfl ?_
      exact ⟨none, 0, 0, by rw [G.out]; rfl, by rw [G.out]; exact at_nil_ _ _ _, ((C0.out.trans CV.out (fun _ h _ => h)).trans CW.out (fun j hj hl => by have := Hb2.out; have := Hb3.out; omega))⟩
    by_cases c2 : (n : Int) < a
    case pos =>
      have G := hid (show refApplyP s ⟨4, a, b, log⟩ = (st0, 54) by unfold refApplyP; rw [show applyS s ⟨4, a, b, log⟩ = none by rw [applyS4, if_neg (fun h => by have := h.2; have := L1.out; omega)]])
      go_enter Try.func29, Try.ntmps29
      go_wp2_with (first | ((with_reducible refine at_dst (N := 10) rfl ?_); rw [← hb4, ← hb3, ← hb2, ← hw0, ← hW0]; clear hw0 hW0 hb4 hb2 hb3; refine vec_list (d := entryK) _ rfl (.tmp 7) (.tmp 9) 39 100 (.agg #[.int .i64 0, .int .i64 0, .int .i64 0, .int .i64 0, .int .i64 0, .int .i64 0, .int .i64 0, .slice none 0 0, .slice none 0 0]) 104 rfl Try.underlying39 infoEntry2 rfl (by decide) (by decide) (.slice (some ⟨b4, 0, none⟩) 0 0) rfl VN.out A n c (ys := s.log) rfl Q4.out Q2.out Q1.out Q5.out (Q6.out.mono (fun j hj => ⟨⟨.inl hj.1, hj.2⟩, by simp [Value.ownBlock]; have h1 := HB4.out; have h2 := SZ.out; have h3 := hj.2; omega, by have h1 := CW0.out.size; have h2 := SZ.out; have h3 := hj.2; omega⟩)) (by simp; omega) ?_; simp only [List.length_nil, Nat.zero_add, List.nil_append]; intro A1 cc1 w1 g1 g2; have HV := hid g1; have CV := hid (show Chg (fun _ => False) w0 w1 from CW0.out.trans g2 (fun j hj hl => by simp [Value.ownBlock] at hj; have h1 := HB4.out; omega)); clear g1 g2; replace BS := hid (CV.out.blk BS.out (fun h => h)); replace BR := hid (CV.out.blk BR.out (fun h => h)); replace BT := hid (CV.out.blk BT.out (fun h => h)); have HLOG := hid (show Ty.At entryK w1 (fun j => ((R j ∨ R2 j) ∧ j < w.heap.size ∨ w0.heap.size ≤ j) ∧ j < w1.heap.size) A1 n cc1 s.log from HV.out.at.bound.mono (fun j hj => ⟨by have h1 := CW0.out.size; rcases hj.1 with (h | h) | h; exact .inr h; exact .inr (by omega); exact .inl h, hj.2⟩)); have S_0 : w1.cell? ⟨w.heap.size, 0, none⟩ = some (.int .i64 s.view) := (cellAt BS.out 0).trans rfl; have S_f0 : w1.frozen? ⟨w.heap.size, 0, none⟩ = false := freeAt BS.out 0; have S_1 : w1.cell? ⟨w.heap.size, 1, none⟩ = some (.int .i64 s.normal) := (cellAt BS.out 1).trans rfl; have S_f1 : w1.frozen? ⟨w.heap.size, 1, none⟩ = false := freeAt BS.out 1; have S_2 : w1.cell? ⟨w.heap.size, 2, none⟩ = some (.int .i64 s.commit) := (cellAt BS.out 2).trans rfl; have S_f2 : w1.frozen? ⟨w.heap.size, 2, none⟩ = false := freeAt BS.out 2; have S_3 : w1.cell? ⟨w.heap.size, 3, none⟩ = some (.int .i64 s.active) := (cellAt BS.out 3).trans rfl; have S_f3 : w1.frozen? ⟨w.heap.size, 3, none⟩ = false := freeAt BS.out 3; have S_4 : w1.cell? ⟨w.heap.size, 4, none⟩ = some (.slice A n c) := (cellAt BS.out 4).trans rfl; have S_f4 : w1.frozen? ⟨w.heap.size, 4, none⟩ = false := freeAt BS.out 4; have R_0 : w1.cell? ⟨b2, 0, none⟩ = some (.int .i64 4) := (cellAt BR.out 0).trans rfl; have R_1 : w1.cell? ⟨b2, 1, none⟩ = some (.int .i64 a) := (cellAt BR.out 1).trans rfl; have R_2 : w1.cell? ⟨b2, 2, none⟩ = some (.int .i64 b) := (cellAt BR.out 2).trans rfl; have R_3 : w1.cell? ⟨b2, 3, none⟩ = some (.slice B k d) := (cellAt BR.out 3).trans rfl; have T_0 : w1.cell? ⟨b3, 0, none⟩ = some (.int .i64 0) := (cellAt BT.out 0).trans rfl; have T_f0 : w1.frozen? ⟨b3, 0, none⟩ = false := freeAt BT.out 0; have T_1 : w1.cell? ⟨b3, 1, none⟩ = some (.int .i64 0) := (cellAt BT.out 1).trans rfl; have T_f1 : w1.frozen? ⟨b3, 1, none⟩ = false := freeAt BT.out 1; have T_2 : w1.cell? ⟨b3, 2, none⟩ = some (.int .i64 0) := (cellAt BT.out 2).trans rfl; have T_f2 : w1.frozen? ⟨b3, 2, none⟩ = false := freeAt BT.out 2; have T_3 : w1.cell? ⟨b3, 3, none⟩ = some (.int .i64 0) := (cellAt BT.out 3).trans rfl; have T_f3 : w1.frozen? ⟨b3, 3, none⟩ = false := freeAt BT.out 3; have T_4 : w1.cell? ⟨b3, 4, none⟩ = some (.slice none 0 0) := (cellAt BT.out 4).trans rfl; have T_f4 : w1.frozen? ⟨b3, 4, none⟩ = false := freeAt BT.out 4; have ltw : w.heap.size < w1.heap.size := lt_of_blk BS.out))
      clear S_0 S_f0 S_1 S_f1 S_2 S_f2 S_3 S_f3 S_4 S_f4 R_0 R_1 R_2 R_3 T_0 T_f0 T_1 T_f1 T_2 T_f2 T_3 T_f3 T_4 T_f4
      obtain ⟨PB, PC⟩ := put_blk [(.int .i64 0 : Value), .int .i64 0, .int .i64 0, .int .i64 0, .slice none 0 0] w1 _ BT.out rfl
      generalize hW : (((((w1.setCell ⟨b3, 0, none⟩ (.int .i64 0)).setCell ⟨b3, 1, none⟩ (.int .i64 0)).setCell ⟨b3, 2, none⟩ (.int .i64 0)).setCell ⟨b3, 3, none⟩ (.int .i64 0)).setCell ⟨b3, 4, none⟩ (.slice none 0 0)) = W
      have BT2 := hid (show W.heap[b3]? = some (.cells #[.int .i64 0, .int .i64 0, .int .i64 0, .int .i64 0, .slice none 0 0] 41 (0, 0)) by rw [← hW]; exact PB)
      have CW := hid (show Chg (fun k => k = b3) w1 W by rw [← hW]; exact PC)
      clear PB PC hW
      have z0 : W.cell? ⟨b3, 0, none⟩ = some (.int .i64 0) := (cellAt BT2.out 0).trans rfl
      have z1 : W.cell? ⟨b3, 1, none⟩ = some (.int .i64 0) := (cellAt BT2.out 1).trans rfl
      have z2 : W.cell? ⟨b3, 2, none⟩ = some (.int .i64 0) := (cellAt BT2.out 2).trans rfl
      have z3 : W.cell? ⟨b3, 3, none⟩ = some (.int .i64 0) := (cellAt BT2.out 3).trans rfl
      have z4 : W.cell? ⟨b3, 4, none⟩ = some (.slice none 0 0) := (cellAt BT2.out 4).trans rfl
      refine bodyPost_ret (v := .tuple #[.agg #[.int .i64 0, .int .i64 0, .int .i64 0, .int .i64 0, .slice none 0 0], .int .i64 54]) (by simp [results, Try.results29, go_sem, z0, z1, z2, z3, z4]) rfl ?_
      exact ⟨none, 0, 0, by rw [G.out]; rfl, by rw [G.out]; exact at_nil_ _ _ _, ((C0.out.trans CV.out (fun _ h _ => h)).trans CW.out (fun j hj hl => by have := Hb2.out; have := Hb3.out; omega))⟩
    go_enter Try.func29, Try.ntmps29
    go_wp2_with (first | ((with_reducible refine at_dst (N := 10) rfl ?_); rw [← hb4, ← hb3, ← hb2, ← hw0, ← hW0]; clear hw0 hW0 hb4 hb2 hb3; refine vec_list (d := entryK) _ rfl (.tmp 7) (.tmp 9) 39 100 (.agg #[.int .i64 0, .int .i64 0, .int .i64 0, .int .i64 0, .int .i64 0, .int .i64 0, .int .i64 0, .slice none 0 0, .slice none 0 0]) 104 rfl Try.underlying39 infoEntry2 rfl (by decide) (by decide) (.slice (some ⟨b4, 0, none⟩) 0 0) rfl VN.out A n c (ys := s.log) rfl Q4.out Q2.out Q1.out Q5.out (Q6.out.mono (fun j hj => ⟨⟨.inl hj.1, hj.2⟩, by simp [Value.ownBlock]; have h1 := HB4.out; have h2 := SZ.out; have h3 := hj.2; omega, by have h1 := CW0.out.size; have h2 := SZ.out; have h3 := hj.2; omega⟩)) (by simp; omega) ?_; simp only [List.length_nil, Nat.zero_add, List.nil_append]; intro A1 cc1 w1 g1 g2; have HV := hid g1; have CV := hid (show Chg (fun _ => False) w0 w1 from CW0.out.trans g2 (fun j hj hl => by simp [Value.ownBlock] at hj; have h1 := HB4.out; omega)); clear g1 g2; replace BS := hid (CV.out.blk BS.out (fun h => h)); replace BR := hid (CV.out.blk BR.out (fun h => h)); replace BT := hid (CV.out.blk BT.out (fun h => h)); have HLOG := hid (show Ty.At entryK w1 (fun j => ((R j ∨ R2 j) ∧ j < w.heap.size ∨ w0.heap.size ≤ j) ∧ j < w1.heap.size) A1 n cc1 s.log from HV.out.at.bound.mono (fun j hj => ⟨by have h1 := CW0.out.size; rcases hj.1 with (h | h) | h; exact .inr h; exact .inr (by omega); exact .inl h, hj.2⟩)); have S_0 : w1.cell? ⟨w.heap.size, 0, none⟩ = some (.int .i64 s.view) := (cellAt BS.out 0).trans rfl; have S_f0 : w1.frozen? ⟨w.heap.size, 0, none⟩ = false := freeAt BS.out 0; have S_1 : w1.cell? ⟨w.heap.size, 1, none⟩ = some (.int .i64 s.normal) := (cellAt BS.out 1).trans rfl; have S_f1 : w1.frozen? ⟨w.heap.size, 1, none⟩ = false := freeAt BS.out 1; have S_2 : w1.cell? ⟨w.heap.size, 2, none⟩ = some (.int .i64 s.commit) := (cellAt BS.out 2).trans rfl; have S_f2 : w1.frozen? ⟨w.heap.size, 2, none⟩ = false := freeAt BS.out 2; have S_3 : w1.cell? ⟨w.heap.size, 3, none⟩ = some (.int .i64 s.active) := (cellAt BS.out 3).trans rfl; have S_f3 : w1.frozen? ⟨w.heap.size, 3, none⟩ = false := freeAt BS.out 3; have S_4 : w1.cell? ⟨w.heap.size, 4, none⟩ = some (.slice A n c) := (cellAt BS.out 4).trans rfl; have S_f4 : w1.frozen? ⟨w.heap.size, 4, none⟩ = false := freeAt BS.out 4; have R_0 : w1.cell? ⟨b2, 0, none⟩ = some (.int .i64 4) := (cellAt BR.out 0).trans rfl; have R_1 : w1.cell? ⟨b2, 1, none⟩ = some (.int .i64 a) := (cellAt BR.out 1).trans rfl; have R_2 : w1.cell? ⟨b2, 2, none⟩ = some (.int .i64 b) := (cellAt BR.out 2).trans rfl; have R_3 : w1.cell? ⟨b2, 3, none⟩ = some (.slice B k d) := (cellAt BR.out 3).trans rfl; have T_0 : w1.cell? ⟨b3, 0, none⟩ = some (.int .i64 0) := (cellAt BT.out 0).trans rfl; have T_f0 : w1.frozen? ⟨b3, 0, none⟩ = false := freeAt BT.out 0; have T_1 : w1.cell? ⟨b3, 1, none⟩ = some (.int .i64 0) := (cellAt BT.out 1).trans rfl; have T_f1 : w1.frozen? ⟨b3, 1, none⟩ = false := freeAt BT.out 1; have T_2 : w1.cell? ⟨b3, 2, none⟩ = some (.int .i64 0) := (cellAt BT.out 2).trans rfl; have T_f2 : w1.frozen? ⟨b3, 2, none⟩ = false := freeAt BT.out 2; have T_3 : w1.cell? ⟨b3, 3, none⟩ = some (.int .i64 0) := (cellAt BT.out 3).trans rfl; have T_f3 : w1.frozen? ⟨b3, 3, none⟩ = false := freeAt BT.out 3; have T_4 : w1.cell? ⟨b3, 4, none⟩ = some (.slice none 0 0) := (cellAt BT.out 4).trans rfl; have T_f4 : w1.frozen? ⟨b3, 4, none⟩ = false := freeAt BT.out 4; have ltw : w.heap.size < w1.heap.size := lt_of_blk BS.out))
    clear S_0 S_f0 S_1 S_f1 S_2 S_f2 S_3 S_f3 S_4 S_f4 R_0 R_1 R_2 R_3 T_0 T_f0 T_1 T_f1 T_2 T_f2 T_3 T_f3 T_4 T_f4
    have G := hid (show refApplyP s ⟨4, a, b, log⟩ = ({ s with commit := a }, 0) by unfold refApplyP; rw [show applyS s ⟨4, a, b, log⟩ = some { s with commit := a } by rw [applyS4, if_pos ⟨by omega, by have := L1.out; omega⟩]])
    obtain ⟨W2, hW2⟩ : ∃ W, W = ((w1.setCell ⟨w.heap.size, 2, none⟩ (.int .i64 a)).setCell ⟨w.heap.size, 4, none⟩ (.slice A1 n cc1)) := ⟨_, rfl⟩
    rw [← hW2]
    have D2 := hid (show Chg (fun j => j = w.heap.size) w1 W2 by rw [hW2]; exact (((Chg.refl (fun j => j = w.heap.size) w1).set (p := ⟨w.heap.size, 2, none⟩) (fun _ => rfl) _).set (p := ⟨w.heap.size, 4, none⟩) (fun _ => rfl) _))
    replace BT := hid (D2.out.blk BT.out (by omega))
    clear hW2
    obtain ⟨PB, PC⟩ := put_blk [(.int .i64 s.view : Value), .int .i64 s.normal, .int .i64 a, .int .i64 s.active, .slice A1 n cc1] W2 _ BT.out rfl
    generalize hW : (((((W2.setCell ⟨b3, 0, none⟩ (.int .i64 s.view)).setCell ⟨b3, 1, none⟩ (.int .i64 s.normal)).setCell ⟨b3, 2, none⟩ (.int .i64 a)).setCell ⟨b3, 3, none⟩ (.int .i64 s.active)).setCell ⟨b3, 4, none⟩ (.slice A1 n cc1)) = W
    have BT2 := hid (show W.heap[b3]? = some (.cells #[.int .i64 s.view, .int .i64 s.normal, .int .i64 a, .int .i64 s.active, .slice A1 n cc1] 41 (0, 0)) by rw [← hW]; exact PB)
    have CW := hid (show Chg (fun k => k = b3) W2 W by rw [← hW]; exact PC)
    clear PB PC hW
    have z0 : W.cell? ⟨b3, 0, none⟩ = some (.int .i64 s.view) := (cellAt BT2.out 0).trans rfl
    have z1 : W.cell? ⟨b3, 1, none⟩ = some (.int .i64 s.normal) := (cellAt BT2.out 1).trans rfl
    have z2 : W.cell? ⟨b3, 2, none⟩ = some (.int .i64 a) := (cellAt BT2.out 2).trans rfl
    have z3 : W.cell? ⟨b3, 3, none⟩ = some (.int .i64 s.active) := (cellAt BT2.out 3).trans rfl
    have z4 : W.cell? ⟨b3, 4, none⟩ = some (.slice A1 n cc1) := (cellAt BT2.out 4).trans rfl
    refine bodyPost_ret (v := .tuple #[.agg #[.int .i64 s.view, .int .i64 s.normal, .int .i64 a, .int .i64 s.active, .slice A1 n cc1], .int .i64 0]) (by simp [results, Try.results29, go_sem, z0, z1, z2, z3, z4]) rfl ?_
    have HAT := ((HLOG.out.chg D2.out (fun j hj e => by have z := SZ.out; rcases hj.1 with h | h; exact absurd h.2 (by omega); omega)).chg CW.out (fun j hj e => by have z := SZ.out; have hb := Hb3.out; rcases hj.1 with h | h; exact absurd h.2 (by omega); omega)).mono (S' := fun j => ((R j ∨ R2 j) ∧ j < w.heap.size ∨ w.heap.size ≤ j) ∧ j < W.heap.size) (fun j hj => ⟨by have z := SZ.out; rcases hj.1 with h | h; exact .inl h; exact .inr (by omega), Nat.lt_of_lt_of_le hj.2 (Nat.le_trans D2.out.size CW.out.size)⟩)
    exact ⟨A1, n, cc1, by rw [G.out]; try rfl, by rw [G.out]; exact HAT, (((C0.out.trans CV.out (fun _ h _ => h)).trans (S := fun _ => False) D2.out (fun j hj hl => by omega)).trans CW.out (fun j hj hl => by have := Hb3.out; omega))⟩
  · by_cases c1 : 64 < a
    case pos =>
      have G := hid (show refApplyP s ⟨5, a, b, log⟩ = (st0, 54) by unfold refApplyP; rw [show applyS s ⟨5, a, b, log⟩ = none by rw [applyS5, if_neg (fun h => by have := h; have := L1.out; omega)]])
      go_enter Try.func29, Try.ntmps29
      go_wp2_with (first | ((with_reducible refine at_dst (N := 10) rfl ?_); rw [← hb4, ← hb3, ← hb2, ← hw0, ← hW0]; clear hw0 hW0 hb4 hb2 hb3; refine vec_list (d := entryK) _ rfl (.tmp 7) (.tmp 9) 39 100 (.agg #[.int .i64 0, .int .i64 0, .int .i64 0, .int .i64 0, .int .i64 0, .int .i64 0, .int .i64 0, .slice none 0 0, .slice none 0 0]) 104 rfl Try.underlying39 infoEntry2 rfl (by decide) (by decide) (.slice (some ⟨b4, 0, none⟩) 0 0) rfl VN.out A n c (ys := s.log) rfl Q4.out Q2.out Q1.out Q5.out (Q6.out.mono (fun j hj => ⟨⟨.inl hj.1, hj.2⟩, by simp [Value.ownBlock]; have h1 := HB4.out; have h2 := SZ.out; have h3 := hj.2; omega, by have h1 := CW0.out.size; have h2 := SZ.out; have h3 := hj.2; omega⟩)) (by simp; omega) ?_; simp only [List.length_nil, Nat.zero_add, List.nil_append]; intro A1 cc1 w1 g1 g2; have HV := hid g1; have CV := hid (show Chg (fun _ => False) w0 w1 from CW0.out.trans g2 (fun j hj hl => by simp [Value.ownBlock] at hj; have h1 := HB4.out; omega)); clear g1 g2; replace BS := hid (CV.out.blk BS.out (fun h => h)); replace BR := hid (CV.out.blk BR.out (fun h => h)); replace BT := hid (CV.out.blk BT.out (fun h => h)); have HLOG := hid (show Ty.At entryK w1 (fun j => ((R j ∨ R2 j) ∧ j < w.heap.size ∨ w0.heap.size ≤ j) ∧ j < w1.heap.size) A1 n cc1 s.log from HV.out.at.bound.mono (fun j hj => ⟨by have h1 := CW0.out.size; rcases hj.1 with (h | h) | h; exact .inr h; exact .inr (by omega); exact .inl h, hj.2⟩)); have S_0 : w1.cell? ⟨w.heap.size, 0, none⟩ = some (.int .i64 s.view) := (cellAt BS.out 0).trans rfl; have S_f0 : w1.frozen? ⟨w.heap.size, 0, none⟩ = false := freeAt BS.out 0; have S_1 : w1.cell? ⟨w.heap.size, 1, none⟩ = some (.int .i64 s.normal) := (cellAt BS.out 1).trans rfl; have S_f1 : w1.frozen? ⟨w.heap.size, 1, none⟩ = false := freeAt BS.out 1; have S_2 : w1.cell? ⟨w.heap.size, 2, none⟩ = some (.int .i64 s.commit) := (cellAt BS.out 2).trans rfl; have S_f2 : w1.frozen? ⟨w.heap.size, 2, none⟩ = false := freeAt BS.out 2; have S_3 : w1.cell? ⟨w.heap.size, 3, none⟩ = some (.int .i64 s.active) := (cellAt BS.out 3).trans rfl; have S_f3 : w1.frozen? ⟨w.heap.size, 3, none⟩ = false := freeAt BS.out 3; have S_4 : w1.cell? ⟨w.heap.size, 4, none⟩ = some (.slice A n c) := (cellAt BS.out 4).trans rfl; have S_f4 : w1.frozen? ⟨w.heap.size, 4, none⟩ = false := freeAt BS.out 4; have R_0 : w1.cell? ⟨b2, 0, none⟩ = some (.int .i64 5) := (cellAt BR.out 0).trans rfl; have R_1 : w1.cell? ⟨b2, 1, none⟩ = some (.int .i64 a) := (cellAt BR.out 1).trans rfl; have R_2 : w1.cell? ⟨b2, 2, none⟩ = some (.int .i64 b) := (cellAt BR.out 2).trans rfl; have R_3 : w1.cell? ⟨b2, 3, none⟩ = some (.slice B k d) := (cellAt BR.out 3).trans rfl; have T_0 : w1.cell? ⟨b3, 0, none⟩ = some (.int .i64 0) := (cellAt BT.out 0).trans rfl; have T_f0 : w1.frozen? ⟨b3, 0, none⟩ = false := freeAt BT.out 0; have T_1 : w1.cell? ⟨b3, 1, none⟩ = some (.int .i64 0) := (cellAt BT.out 1).trans rfl; have T_f1 : w1.frozen? ⟨b3, 1, none⟩ = false := freeAt BT.out 1; have T_2 : w1.cell? ⟨b3, 2, none⟩ = some (.int .i64 0) := (cellAt BT.out 2).trans rfl; have T_f2 : w1.frozen? ⟨b3, 2, none⟩ = false := freeAt BT.out 2; have T_3 : w1.cell? ⟨b3, 3, none⟩ = some (.int .i64 0) := (cellAt BT.out 3).trans rfl; have T_f3 : w1.frozen? ⟨b3, 3, none⟩ = false := freeAt BT.out 3; have T_4 : w1.cell? ⟨b3, 4, none⟩ = some (.slice none 0 0) := (cellAt BT.out 4).trans rfl; have T_f4 : w1.frozen? ⟨b3, 4, none⟩ = false := freeAt BT.out 4; have ltw : w.heap.size < w1.heap.size := lt_of_blk BS.out))
      clear S_0 S_f0 S_1 S_f1 S_2 S_f2 S_3 S_f3 S_4 S_f4 R_0 R_1 R_2 R_3 T_0 T_f0 T_1 T_f1 T_2 T_f2 T_3 T_f3 T_4 T_f4
      obtain ⟨PB, PC⟩ := put_blk [(.int .i64 0 : Value), .int .i64 0, .int .i64 0, .int .i64 0, .slice none 0 0] w1 _ BT.out rfl
      generalize hW : (((((w1.setCell ⟨b3, 0, none⟩ (.int .i64 0)).setCell ⟨b3, 1, none⟩ (.int .i64 0)).setCell ⟨b3, 2, none⟩ (.int .i64 0)).setCell ⟨b3, 3, none⟩ (.int .i64 0)).setCell ⟨b3, 4, none⟩ (.slice none 0 0)) = W
      have BT2 := hid (show W.heap[b3]? = some (.cells #[.int .i64 0, .int .i64 0, .int .i64 0, .int .i64 0, .slice none 0 0] 41 (0, 0)) by rw [← hW]; exact PB)
      have CW := hid (show Chg (fun k => k = b3) w1 W by rw [← hW]; exact PC)
      clear PB PC hW
      have z0 : W.cell? ⟨b3, 0, none⟩ = some (.int .i64 0) := (cellAt BT2.out 0).trans rfl
      have z1 : W.cell? ⟨b3, 1, none⟩ = some (.int .i64 0) := (cellAt BT2.out 1).trans rfl
      have z2 : W.cell? ⟨b3, 2, none⟩ = some (.int .i64 0) := (cellAt BT2.out 2).trans rfl
      have z3 : W.cell? ⟨b3, 3, none⟩ = some (.int .i64 0) := (cellAt BT2.out 3).trans rfl
      have z4 : W.cell? ⟨b3, 4, none⟩ = some (.slice none 0 0) := (cellAt BT2.out 4).trans rfl
      refine bodyPost_ret (v := .tuple #[.agg #[.int .i64 0, .int .i64 0, .int .i64 0, .int .i64 0, .slice none 0 0], .int .i64 54]) (by simp [results, Try.results29, go_sem, z0, z1, z2, z3, z4]) rfl ?_
      exact ⟨none, 0, 0, by rw [G.out]; rfl, by rw [G.out]; exact at_nil_ _ _ _, ((C0.out.trans CV.out (fun _ h _ => h)).trans CW.out (fun j hj hl => by have := Hb2.out; have := Hb3.out; omega))⟩
    go_enter Try.func29, Try.ntmps29
    go_wp2_with (first | ((with_reducible refine at_dst (N := 10) rfl ?_); rw [← hb4, ← hb3, ← hb2, ← hw0, ← hW0]; clear hw0 hW0 hb4 hb2 hb3; refine vec_list (d := entryK) _ rfl (.tmp 7) (.tmp 9) 39 100 (.agg #[.int .i64 0, .int .i64 0, .int .i64 0, .int .i64 0, .int .i64 0, .int .i64 0, .int .i64 0, .slice none 0 0, .slice none 0 0]) 104 rfl Try.underlying39 infoEntry2 rfl (by decide) (by decide) (.slice (some ⟨b4, 0, none⟩) 0 0) rfl VN.out A n c (ys := s.log) rfl Q4.out Q2.out Q1.out Q5.out (Q6.out.mono (fun j hj => ⟨⟨.inl hj.1, hj.2⟩, by simp [Value.ownBlock]; have h1 := HB4.out; have h2 := SZ.out; have h3 := hj.2; omega, by have h1 := CW0.out.size; have h2 := SZ.out; have h3 := hj.2; omega⟩)) (by simp; omega) ?_; simp only [List.length_nil, Nat.zero_add, List.nil_append]; intro A1 cc1 w1 g1 g2; have HV := hid g1; have CV := hid (show Chg (fun _ => False) w0 w1 from CW0.out.trans g2 (fun j hj hl => by simp [Value.ownBlock] at hj; have h1 := HB4.out; omega)); clear g1 g2; replace BS := hid (CV.out.blk BS.out (fun h => h)); replace BR := hid (CV.out.blk BR.out (fun h => h)); replace BT := hid (CV.out.blk BT.out (fun h => h)); have HLOG := hid (show Ty.At entryK w1 (fun j => ((R j ∨ R2 j) ∧ j < w.heap.size ∨ w0.heap.size ≤ j) ∧ j < w1.heap.size) A1 n cc1 s.log from HV.out.at.bound.mono (fun j hj => ⟨by have h1 := CW0.out.size; rcases hj.1 with (h | h) | h; exact .inr h; exact .inr (by omega); exact .inl h, hj.2⟩)); have S_0 : w1.cell? ⟨w.heap.size, 0, none⟩ = some (.int .i64 s.view) := (cellAt BS.out 0).trans rfl; have S_f0 : w1.frozen? ⟨w.heap.size, 0, none⟩ = false := freeAt BS.out 0; have S_1 : w1.cell? ⟨w.heap.size, 1, none⟩ = some (.int .i64 s.normal) := (cellAt BS.out 1).trans rfl; have S_f1 : w1.frozen? ⟨w.heap.size, 1, none⟩ = false := freeAt BS.out 1; have S_2 : w1.cell? ⟨w.heap.size, 2, none⟩ = some (.int .i64 s.commit) := (cellAt BS.out 2).trans rfl; have S_f2 : w1.frozen? ⟨w.heap.size, 2, none⟩ = false := freeAt BS.out 2; have S_3 : w1.cell? ⟨w.heap.size, 3, none⟩ = some (.int .i64 s.active) := (cellAt BS.out 3).trans rfl; have S_f3 : w1.frozen? ⟨w.heap.size, 3, none⟩ = false := freeAt BS.out 3; have S_4 : w1.cell? ⟨w.heap.size, 4, none⟩ = some (.slice A n c) := (cellAt BS.out 4).trans rfl; have S_f4 : w1.frozen? ⟨w.heap.size, 4, none⟩ = false := freeAt BS.out 4; have R_0 : w1.cell? ⟨b2, 0, none⟩ = some (.int .i64 5) := (cellAt BR.out 0).trans rfl; have R_1 : w1.cell? ⟨b2, 1, none⟩ = some (.int .i64 a) := (cellAt BR.out 1).trans rfl; have R_2 : w1.cell? ⟨b2, 2, none⟩ = some (.int .i64 b) := (cellAt BR.out 2).trans rfl; have R_3 : w1.cell? ⟨b2, 3, none⟩ = some (.slice B k d) := (cellAt BR.out 3).trans rfl; have T_0 : w1.cell? ⟨b3, 0, none⟩ = some (.int .i64 0) := (cellAt BT.out 0).trans rfl; have T_f0 : w1.frozen? ⟨b3, 0, none⟩ = false := freeAt BT.out 0; have T_1 : w1.cell? ⟨b3, 1, none⟩ = some (.int .i64 0) := (cellAt BT.out 1).trans rfl; have T_f1 : w1.frozen? ⟨b3, 1, none⟩ = false := freeAt BT.out 1; have T_2 : w1.cell? ⟨b3, 2, none⟩ = some (.int .i64 0) := (cellAt BT.out 2).trans rfl; have T_f2 : w1.frozen? ⟨b3, 2, none⟩ = false := freeAt BT.out 2; have T_3 : w1.cell? ⟨b3, 3, none⟩ = some (.int .i64 0) := (cellAt BT.out 3).trans rfl; have T_f3 : w1.frozen? ⟨b3, 3, none⟩ = false := freeAt BT.out 3; have T_4 : w1.cell? ⟨b3, 4, none⟩ = some (.slice none 0 0) := (cellAt BT.out 4).trans rfl; have T_f4 : w1.frozen? ⟨b3, 4, none⟩ = false := freeAt BT.out 4; have ltw : w.heap.size < w1.heap.size := lt_of_blk BS.out))
    clear S_0 S_f0 S_1 S_f1 S_2 S_f2 S_3 S_f3 S_4 S_f4 R_0 R_1 R_2 R_3 T_0 T_f0 T_1 T_f1 T_2 T_f2 T_3 T_f3 T_4 T_f4
    have G := hid (show refApplyP s ⟨5, a, b, log⟩ = ({ s with active := a }, 0) by unfold refApplyP; rw [show applyS s ⟨5, a, b, log⟩ = some { s with active := a } by rw [applyS5, if_pos (by omega)]])
    obtain ⟨W2, hW2⟩ : ∃ W, W = ((w1.setCell ⟨w.heap.size, 3, none⟩ (.int .i64 a)).setCell ⟨w.heap.size, 4, none⟩ (.slice A1 n cc1)) := ⟨_, rfl⟩
    rw [← hW2]
    have D2 := hid (show Chg (fun j => j = w.heap.size) w1 W2 by rw [hW2]; exact (((Chg.refl (fun j => j = w.heap.size) w1).set (p := ⟨w.heap.size, 3, none⟩) (fun _ => rfl) _).set (p := ⟨w.heap.size, 4, none⟩) (fun _ => rfl) _))
    replace BT := hid (D2.out.blk BT.out (by omega))
    clear hW2
    obtain ⟨PB, PC⟩ := put_blk [(.int .i64 s.view : Value), .int .i64 s.normal, .int .i64 s.commit, .int .i64 a, .slice A1 n cc1] W2 _ BT.out rfl
    generalize hW : (((((W2.setCell ⟨b3, 0, none⟩ (.int .i64 s.view)).setCell ⟨b3, 1, none⟩ (.int .i64 s.normal)).setCell ⟨b3, 2, none⟩ (.int .i64 s.commit)).setCell ⟨b3, 3, none⟩ (.int .i64 a)).setCell ⟨b3, 4, none⟩ (.slice A1 n cc1)) = W
    have BT2 := hid (show W.heap[b3]? = some (.cells #[.int .i64 s.view, .int .i64 s.normal, .int .i64 s.commit, .int .i64 a, .slice A1 n cc1] 41 (0, 0)) by rw [← hW]; exact PB)
    have CW := hid (show Chg (fun k => k = b3) W2 W by rw [← hW]; exact PC)
    clear PB PC hW
    have z0 : W.cell? ⟨b3, 0, none⟩ = some (.int .i64 s.view) := (cellAt BT2.out 0).trans rfl
    have z1 : W.cell? ⟨b3, 1, none⟩ = some (.int .i64 s.normal) := (cellAt BT2.out 1).trans rfl
    have z2 : W.cell? ⟨b3, 2, none⟩ = some (.int .i64 s.commit) := (cellAt BT2.out 2).trans rfl
    have z3 : W.cell? ⟨b3, 3, none⟩ = some (.int .i64 a) := (cellAt BT2.out 3).trans rfl
    have z4 : W.cell? ⟨b3, 4, none⟩ = some (.slice A1 n cc1) := (cellAt BT2.out 4).trans rfl
    refine bodyPost_ret (v := .tuple #[.agg #[.int .i64 s.view, .int .i64 s.normal, .int .i64 s.commit, .int .i64 a, .slice A1 n cc1], .int .i64 0]) (by simp [results, Try.results29, go_sem, z0, z1, z2, z3, z4]) rfl ?_
    have HAT := ((HLOG.out.chg D2.out (fun j hj e => by have z := SZ.out; rcases hj.1 with h | h; exact absurd h.2 (by omega); omega)).chg CW.out (fun j hj e => by have z := SZ.out; have hb := Hb3.out; rcases hj.1 with h | h; exact absurd h.2 (by omega); omega)).mono (S' := fun j => ((R j ∨ R2 j) ∧ j < w.heap.size ∨ w.heap.size ≤ j) ∧ j < W.heap.size) (fun j hj => ⟨by have z := SZ.out; rcases hj.1 with h | h; exact .inl h; exact .inr (by omega), Nat.lt_of_lt_of_le hj.2 (Nat.le_trans D2.out.size CW.out.size)⟩)
    exact ⟨A1, n, cc1, by rw [G.out]; try rfl, by rw [G.out]; exact HAT, (((C0.out.trans CV.out (fun _ h _ => h)).trans (S := fun _ => False) D2.out (fun j hj hl => by omega)).trans CW.out (fun j hj hl => by have := Hb3.out; omega))⟩
end Go.Proofs.Ytfpjickdkkhndaa.Pa


/- The contract of the document's Read. -/

namespace Go.Proofs.Ytfpjickdkkhndaa.Pa

set_option linter.unusedVariables false

set_option linter.unusedSimpArgs false

open Go.RowKit Go.Proofs.Ytfpjickdkkhndaa.C

attribute [local go_sem] max2_int min2_int max_two min_two

/-- The loop's state, the document's. -/
def RdAt2 (b : List UInt8) (B p : Nat) (w1 : World) (u : Nat) (s' : St) (wr : World) : Prop :=
  u ≤ b.length ∧ rd13 st0 b = ((rd13 s' (b.drop u)).1, u + (rd13 s' (b.drop u)).2) ∧ stR s' = true ∧
  ∃ A' n' c', wr.heap[p]? = some (.cells #[.int .i64 s'.view, .int .i64 s'.normal, .int .i64 s'.commit, .int .i64 s'.active, .slice A' n' c'] 41 (0, 0)) ∧ Ty.At entryK wr (fun k => B ≤ k ∧ k < wr.heap.size) A' n' c' s'.log ∧ Chg (fun k => k = p) w1 wr
theorem refApplyP_yes {s : St} {r : Rec} (h : (refApplyP s r).2 = 0) : applyS s r = some (refApplyP s r).1 := by
  unfold refApplyP at h ⊢
  split
  · assumption
  · rename_i e
    rw [e] at h
    cases h
theorem refApplyP_no {s : St} {r : Rec} (h : (refApplyP s r).2 ≠ 0) : applyS s r = none := by
  unfold refApplyP at h
  split at h
  · exact absurd rfl h
  · assumption
def RefReadTo (b : List UInt8) (w : World) (e' : Ending) (w' : World) : Prop :=
  ∃ A' n' c', e' = .returned (.tuple #[.agg #[.int .i64 (rd13 st0 b).1.view, .int .i64 (rd13 st0 b).1.normal, .int .i64 (rd13 st0 b).1.commit, .int .i64 (rd13 st0 b).1.active, .slice A' n' c'], .int .i64 ((rd13 st0 b).2 : Int)]) ∧ Ty.At entryK w' (fun k => w.heap.size ≤ k ∧ k < w'.heap.size) A' n' c' (rd13 st0 b).1.log ∧ Chg (fun _ => False) w w'
set_option maxHeartbeats 4000000 in
set_option maxRecDepth 100000 in
theorem refRead_any {w : World} {R : Nat → Prop} {A : Option Addr} {n c : Nat} {b : List UInt8} (h : Ty.At Ty.u8 w R A n c b) (hn : n ≤ 1000000) :
    Calls Try.prog 21 #[.slice A n c] w (RefReadTo b w) := by
  obtain ⟨b2, hb2⟩ : ∃ x, x = w.heap.size + 1 := ⟨_, rfl⟩
  obtain ⟨w0, hw0⟩ : ∃ x, x = ((w.alloc (.cells #[.int .i64 0, .int .i64 0, .int .i64 0, .int .i64 0, .slice none 0 0] 41)).alloc (.cells #[.int .i64 0, .int .i64 0, .int .i64 0, .int .i64 0, .slice none 0 0] 41)) := ⟨_, rfl⟩
  have C0 := hid (show Chg (fun _ => False) w w0 by rw [hw0]; exact ((Chg.refl _ w).alloc _).alloc _)
  have BT := hid (show w0.heap[w.heap.size]? = some (.cells #[.int .i64 0, .int .i64 0, .int .i64 0, .int .i64 0, .slice none 0 0] 41 (0, 0)) by
    rw [hw0]
    refine blk_alloc ?_ _
    have := blk_new w (.cells #[.int .i64 0, .int .i64 0, .int .i64 0, .int .i64 0, .slice none 0 0] 41)
    simpa using this)
  have BS := hid (show w0.heap[b2]? = some (.cells #[.int .i64 0, .int .i64 0, .int .i64 0, .int .i64 0, .slice none 0 0] 41 (0, 0)) by
    rw [hw0, hb2]
    have := blk_new (w.alloc (.cells #[.int .i64 0, .int .i64 0, .int .i64 0, .int .i64 0, .slice none 0 0] 41)) (.cells #[.int .i64 0, .int .i64 0, .int .i64 0, .int .i64 0, .slice none 0 0] 41)
    simpa using this)
  have ne01 : w.heap.size ≠ b2 := by omega
  have ne10 : b2 ≠ w.heap.size := by omega
  have Hb2 := hid hb2
  have ltb2 : w.heap.size < b2 := by omega
  have SZ := hid (show w0.heap.size = w.heap.size + 2 by rw [hw0]; simp)
  have HB := hid (h.bound.chg C0.out (fun _ _ h => h))
  obtain ⟨N, hN⟩ : ∃ N, N = b.length := ⟨_, rfl⟩
  have HN := hid hN
  have hnN : n = N := by rw [hN]; exact h.1
  subst hnN
  have hNi : (n : Int) ≤ 1000000 := by omega
  clear h hN
  go_enter Try.func21, Try.ntmps21
  go_wp2_with fail
  rw [← hb2, ← hw0]
  clear hw0 hb2
  have HRD0 := hid (show RdAt2 b w0.heap.size b2 w0 0 st0 w0 from ⟨Nat.zero_le _, by simp, stR0, none, 0, 0, BS.out, at_nil_ _ _ _, Chg.refl _ _⟩)
  go_loopw [5] (fun i wr => ∃ (u : Nat) (s' : St), i = .int .i64 u ∧ RdAt2 b w0.heap.size b2 w0 u s' wr) (fun i _ => n + 1 - (intOf i).toNat)
  case atStart => exact ⟨0, st0, rfl, HRD0.out⟩
  case round =>
    obtain ⟨u, s', rfl, hrd⟩ := hrel
    have HRD := hid hrd
    have huN : u ≤ n := by rw [HN.out]; exact hrd.1
    obtain ⟨_, _, _, A', n', c', hbk, hlg, hC⟩ := hrd
    have HBK := hid hbk
    have HLG := hid hlg
    have HC := hid hC
    clear hbk hlg hC
    have hz := SZ.out
    have hb2 := Hb2.out
    have Z0 := hid (show b2 < w0.heap.size ∧ w.heap.size < b2 by omega)
    clear hz hb2
    have BT2 := hid (HC.out.blk BT.out (by omega))
    obtain ⟨m3, hm3⟩ : ∃ m, n - u = m := ⟨_, rfl⟩
    obtain ⟨A3, c3, cut3, at3⟩ := Ty.At.from_ (P := Try.prog) (d := Ty.u8) Try.underlying36 Fr.info5 A n c u m3 (u : Int) rfl huN hm3
    have AT3 := hid (at3 wr _ _ (HB.out.chg HC.out (fun j hj e => by have h1 := hj.2; have h2 := Z0.out; omega)))
    clear at3 hm3
    obtain ⟨bb, hbb⟩ : ∃ x, x = b.drop u := ⟨_, rfl⟩
    rw [← hbb] at AT3
    have HBB := hid hbb
    have HEQ := hid (show rd13 st0 b = ((rd13 s' bb).1, u + (rd13 s' bb).2) by rw [hbb]; exact HRD.out.2.1)
    clear hbb
    go_wp2_with fail
    refine (Fr.refread_any _ _ _ _ _ _ AT3.out).mono ?_
    rintro e w2 ⟨A2, c2, rfl, hat2, q2, hq2⟩
    obtain ⟨e0, he0⟩ : ∃ x, x = (FrameP.read bb).1 := ⟨_, rfl⟩
    obtain ⟨body, hbody⟩ : ∃ x, x = (FrameP.read bb).2 := ⟨_, rfl⟩
    rw [← hbody] at hat2
    rw [← he0, ← hbody]
    have HR := hid (show FrameP.read bb = (e0, body) by rw [he0, hbody])
    clear he0 hbody
    have C2 := hid (show Chg (fun _ => False) wr w2 by rw [hq2]; exact (Chg.refl _ wr).drewN _)
    obtain ⟨m, hm⟩ : ∃ m, m = body.length := ⟨_, rfl⟩
    rw [← hm] at hat2 ⊢
    have HM := hid hm
    have HB2 := hid (hat2.chg C2.out (fun _ _ h => h))
    have BS2 := hid (C2.out.blk HBK.out (fun h => h))
    replace BT2 := hid (C2.out.blk BT2.out (fun h => h))
    have HLG2 := hid (HLG.out.chg C2.out (fun _ _ h => h))
    clear cut3 hat2 hq2 hm
    by_cases he : e0 = 0
    case neg =>
      have he' : ((e0 : Int) != 0) = true := by simp [he]
      have HE := hid he
      clear he
      have HLG2b := hid (HLG2.out.mono (S' := fun j => w0.heap.size ≤ j ∧ j < w2.heap.size) (fun j hj => ⟨hj.1, Nat.lt_of_lt_of_le hj.2 C2.out.size⟩))
      have G := hid (show rd13 st0 b = (s', u) by rw [HEQ.out, rd13_err HR.out HE.out]; rfl)
      have S_0 : w2.cell? ⟨b2, 0, none⟩ = some (.int .i64 s'.view) := (cellAt BS2.out 0).trans rfl
      have S_1 : w2.cell? ⟨b2, 1, none⟩ = some (.int .i64 s'.normal) := (cellAt BS2.out 1).trans rfl
      have S_2 : w2.cell? ⟨b2, 2, none⟩ = some (.int .i64 s'.commit) := (cellAt BS2.out 2).trans rfl
      have S_3 : w2.cell? ⟨b2, 3, none⟩ = some (.int .i64 s'.active) := (cellAt BS2.out 3).trans rfl
      have S_4 : w2.cell? ⟨b2, 4, none⟩ = some (.slice A' n' c') := (cellAt BS2.out 4).trans rfl
      have T_0 : w2.cell? ⟨w.heap.size, 0, none⟩ = some (.int .i64 0) := (cellAt BT2.out 0).trans rfl
      have T_f0 : w2.frozen? ⟨w.heap.size, 0, none⟩ = false := freeAt BT2.out 0
      have T_1 : w2.cell? ⟨w.heap.size, 1, none⟩ = some (.int .i64 0) := (cellAt BT2.out 1).trans rfl
      have T_f1 : w2.frozen? ⟨w.heap.size, 1, none⟩ = false := freeAt BT2.out 1
      have T_2 : w2.cell? ⟨w.heap.size, 2, none⟩ = some (.int .i64 0) := (cellAt BT2.out 2).trans rfl
      have T_f2 : w2.frozen? ⟨w.heap.size, 2, none⟩ = false := freeAt BT2.out 2
      have T_3 : w2.cell? ⟨w.heap.size, 3, none⟩ = some (.int .i64 0) := (cellAt BT2.out 3).trans rfl
      have T_f3 : w2.frozen? ⟨w.heap.size, 3, none⟩ = false := freeAt BT2.out 3
      have T_4 : w2.cell? ⟨w.heap.size, 4, none⟩ = some (.slice none 0 0) := (cellAt BT2.out 4).trans rfl
      have T_f4 : w2.frozen? ⟨w.heap.size, 4, none⟩ = false := freeAt BT2.out 4
      go_wp2_with fail
      clear S_0 S_1 S_2 S_3 S_4 T_0 T_f0 T_1 T_f1 T_2 T_f2 T_3 T_f3 T_4 T_f4
      obtain ⟨PB, PC⟩ := put_blk [(.int .i64 s'.view : Value), .int .i64 s'.normal, .int .i64 s'.commit, .int .i64 s'.active, .slice A' n' c'] w2 _ BT2.out rfl
      generalize hW : (((((w2.setCell ⟨w.heap.size, 0, none⟩ (.int .i64 s'.view)).setCell ⟨w.heap.size, 1, none⟩ (.int .i64 s'.normal)).setCell ⟨w.heap.size, 2, none⟩ (.int .i64 s'.commit)).setCell ⟨w.heap.size, 3, none⟩ (.int .i64 s'.active)).setCell ⟨w.heap.size, 4, none⟩ (.slice A' n' c')) = W
      have BT2 := hid (show W.heap[w.heap.size]? = some (.cells #[.int .i64 s'.view, .int .i64 s'.normal, .int .i64 s'.commit, .int .i64 s'.active, .slice A' n' c'] 41 (0, 0)) by rw [← hW]; exact PB)
      have CW := hid (show Chg (fun k => k = w.heap.size) w2 W by rw [← hW]; exact PC)
      clear PB PC hW
      have z0 : W.cell? ⟨w.heap.size, 0, none⟩ = some (.int .i64 s'.view) := (cellAt BT2.out 0).trans rfl
      have z1 : W.cell? ⟨w.heap.size, 1, none⟩ = some (.int .i64 s'.normal) := (cellAt BT2.out 1).trans rfl
      have z2 : W.cell? ⟨w.heap.size, 2, none⟩ = some (.int .i64 s'.commit) := (cellAt BT2.out 2).trans rfl
      have z3 : W.cell? ⟨w.heap.size, 3, none⟩ = some (.int .i64 s'.active) := (cellAt BT2.out 3).trans rfl
      have z4 : W.cell? ⟨w.heap.size, 4, none⟩ = some (.slice A' n' c') := (cellAt BT2.out 4).trans rfl
      refine bodyPost_ret (v := .tuple #[.agg #[.int .i64 s'.view, .int .i64 s'.normal, .int .i64 s'.commit, .int .i64 s'.active, .slice A' n' c'], .int .i64 (u : Int)]) (by simp [results, Try.results21, go_sem, z0, z1, z2, z3, z4]) rfl ?_
      have HAT := (HLG2b.out.chg CW.out (fun j hj e => by have z := Z0.out; have h1 := hj.1; omega)).mono (S' := fun j => w.heap.size ≤ j ∧ j < W.heap.size) (fun j hj => ⟨by have z := Z0.out; have h1 := hj.1; omega, Nat.lt_of_lt_of_le hj.2 CW.out.size⟩)
      exact ⟨A', n', c', by rw [G.out], by rw [G.out]; exact HAT, (C0.out.trans (S := fun _ => False) (HC.out.trans (C2.out.mono (fun _ h _ => h.elim)) (fun _ h _ => h)) (fun j hj hl => by have z := Z0.out; omega)).trans CW.out (fun j hj hl => by omega)⟩
    subst he
    have hrl := FrameP.read_len HR.out
    have HRL := hid (show u + (10 + m) ≤ n ∧ m ≤ 65536 by
      have h1 : bb.length = n - u := by rw [HBB.out, List.length_drop, ← HN.out]
      have h3 := HM.out
      omega)
    clear hrl
    have hm6 : m ≤ 1000000 := by have := HRL.out; omega
    go_wp2_with fail
    refine (parserec_any HB2.out hm6).mono ?_
    rintro e w3 ⟨mr, A4, n4, c4, ok, rfl, hp, hwf, hlog, h3⟩
    rw [← parseRec_eq] at hp
    have HP := hid hp
    have HLR := hid hlog.bound
    have C3 := hid (C2.out.trans h3 (fun _ h _ => h))
    have BS3 := hid (h3.blk BS2.out (fun h => h))
    have BT3 := hid (h3.blk BT2.out (fun h => h))
    have HLG3 := hid (HLG2.out.chg h3 (fun _ _ h => h))
    clear hp hwf hlog h3
    obtain ⟨w4, hw4⟩ : ∃ W, W = w3.alloc (.cells #[.int .i64 mr.kind, .int .i64 mr.a, .int .i64 mr.b, .slice A4 n4 c4] 67) := ⟨_, rfl⟩
    have C4 := hid (show Chg (fun _ => False) w3 w4 by rw [hw4]; exact (Chg.refl _ w3).alloc _)
    have BR := hid (show w4.heap[w3.heap.size]? = some (.cells #[.int .i64 mr.kind, .int .i64 mr.a, .int .i64 mr.b, .slice A4 n4 c4] 67 (0, 0)) by rw [hw4]; exact blk_new w3 _)
    have BS4 := hid (C4.out.blk BS3.out (fun h => h))
    have BT4 := hid (C4.out.blk BT3.out (fun h => h))
    have C34 := hid (C3.out.trans C4.out (fun _ h _ => h))
    have HLG4 := hid ((HLG3.out.chg C4.out (fun _ _ h => h)).mono (S' := fun j => w0.heap.size ≤ j ∧ j < w4.heap.size) (fun j hj => ⟨hj.1, Nat.lt_of_lt_of_le hj.2 C34.out.size⟩))
    have hw4' := hid hw4
    clear hw4
    cases ok
    · have HP2 := hid (show parseRec body = none from HP.out)
      clear HP
      have G := hid (show rd13 st0 b = (s', u) by rw [HEQ.out, rd13_no HR.out (by rw [HP2.out]; rfl)]; rfl)
      have S_0 : w4.cell? ⟨b2, 0, none⟩ = some (.int .i64 s'.view) := (cellAt BS4.out 0).trans rfl
      have S_1 : w4.cell? ⟨b2, 1, none⟩ = some (.int .i64 s'.normal) := (cellAt BS4.out 1).trans rfl
      have S_2 : w4.cell? ⟨b2, 2, none⟩ = some (.int .i64 s'.commit) := (cellAt BS4.out 2).trans rfl
      have S_3 : w4.cell? ⟨b2, 3, none⟩ = some (.int .i64 s'.active) := (cellAt BS4.out 3).trans rfl
      have S_4 : w4.cell? ⟨b2, 4, none⟩ = some (.slice A' n' c') := (cellAt BS4.out 4).trans rfl
      have T_0 : w4.cell? ⟨w.heap.size, 0, none⟩ = some (.int .i64 0) := (cellAt BT4.out 0).trans rfl
      have T_f0 : w4.frozen? ⟨w.heap.size, 0, none⟩ = false := freeAt BT4.out 0
      have T_1 : w4.cell? ⟨w.heap.size, 1, none⟩ = some (.int .i64 0) := (cellAt BT4.out 1).trans rfl
      have T_f1 : w4.frozen? ⟨w.heap.size, 1, none⟩ = false := freeAt BT4.out 1
      have T_2 : w4.cell? ⟨w.heap.size, 2, none⟩ = some (.int .i64 0) := (cellAt BT4.out 2).trans rfl
      have T_f2 : w4.frozen? ⟨w.heap.size, 2, none⟩ = false := freeAt BT4.out 2
      have T_3 : w4.cell? ⟨w.heap.size, 3, none⟩ = some (.int .i64 0) := (cellAt BT4.out 3).trans rfl
      have T_f3 : w4.frozen? ⟨w.heap.size, 3, none⟩ = false := freeAt BT4.out 3
      have T_4 : w4.cell? ⟨w.heap.size, 4, none⟩ = some (.slice none 0 0) := (cellAt BT4.out 4).trans rfl
      have T_f4 : w4.frozen? ⟨w.heap.size, 4, none⟩ = false := freeAt BT4.out 4
      go_wp2_with (first | ((with_reducible refine at_dst (N := 30) rfl ?_); rw [← hw4'.out]; clear hw4'))
      clear S_0 S_1 S_2 S_3 S_4 T_0 T_f0 T_1 T_f1 T_2 T_f2 T_3 T_f3 T_4 T_f4
      obtain ⟨PB, PC⟩ := put_blk [(.int .i64 s'.view : Value), .int .i64 s'.normal, .int .i64 s'.commit, .int .i64 s'.active, .slice A' n' c'] w4 _ BT4.out rfl
      generalize hW : (((((w4.setCell ⟨w.heap.size, 0, none⟩ (.int .i64 s'.view)).setCell ⟨w.heap.size, 1, none⟩ (.int .i64 s'.normal)).setCell ⟨w.heap.size, 2, none⟩ (.int .i64 s'.commit)).setCell ⟨w.heap.size, 3, none⟩ (.int .i64 s'.active)).setCell ⟨w.heap.size, 4, none⟩ (.slice A' n' c')) = W
      have BT2 := hid (show W.heap[w.heap.size]? = some (.cells #[.int .i64 s'.view, .int .i64 s'.normal, .int .i64 s'.commit, .int .i64 s'.active, .slice A' n' c'] 41 (0, 0)) by rw [← hW]; exact PB)
      have CW := hid (show Chg (fun k => k = w.heap.size) w4 W by rw [← hW]; exact PC)
      clear PB PC hW
      have z0 : W.cell? ⟨w.heap.size, 0, none⟩ = some (.int .i64 s'.view) := (cellAt BT2.out 0).trans rfl
      have z1 : W.cell? ⟨w.heap.size, 1, none⟩ = some (.int .i64 s'.normal) := (cellAt BT2.out 1).trans rfl
      have z2 : W.cell? ⟨w.heap.size, 2, none⟩ = some (.int .i64 s'.commit) := (cellAt BT2.out 2).trans rfl
      have z3 : W.cell? ⟨w.heap.size, 3, none⟩ = some (.int .i64 s'.active) := (cellAt BT2.out 3).trans rfl
      have z4 : W.cell? ⟨w.heap.size, 4, none⟩ = some (.slice A' n' c') := (cellAt BT2.out 4).trans rfl
      refine bodyPost_ret (v := .tuple #[.agg #[.int .i64 s'.view, .int .i64 s'.normal, .int .i64 s'.commit, .int .i64 s'.active, .slice A' n' c'], .int .i64 (u : Int)]) (by simp [results, Try.results21, go_sem, z0, z1, z2, z3, z4]) rfl ?_
      have HAT := (HLG4.out.chg CW.out (fun j hj e => by have z := Z0.out; have h1 := hj.1; omega)).mono (S' := fun j => w.heap.size ≤ j ∧ j < W.heap.size) (fun j hj => ⟨by have z := Z0.out; have h1 := hj.1; omega, Nat.lt_of_lt_of_le hj.2 CW.out.size⟩)
      exact ⟨A', n', c', by rw [G.out], by rw [G.out]; exact HAT, (C0.out.trans (S := fun _ => False) (HC.out.trans (C34.out.mono (fun _ h _ => h.elim)) (fun _ h _ => h)) (fun j hj hl => by have z := Z0.out; omega)).trans CW.out (fun j hj hl => by omega)⟩
    have HP2 := hid (show parseRec body = some mr from HP.out)
    clear HP
    have HRR := hid (parseRec_back HP2.out).2.1
    have HLR4 := hid (HLR.out.chg C4.out (fun _ _ h => h))
    have S_0 : w4.cell? ⟨b2, 0, none⟩ = some (.int .i64 s'.view) := (cellAt BS4.out 0).trans rfl
    have S_1 : w4.cell? ⟨b2, 1, none⟩ = some (.int .i64 s'.normal) := (cellAt BS4.out 1).trans rfl
    have S_2 : w4.cell? ⟨b2, 2, none⟩ = some (.int .i64 s'.commit) := (cellAt BS4.out 2).trans rfl
    have S_3 : w4.cell? ⟨b2, 3, none⟩ = some (.int .i64 s'.active) := (cellAt BS4.out 3).trans rfl
    have S_4 : w4.cell? ⟨b2, 4, none⟩ = some (.slice A' n' c') := (cellAt BS4.out 4).trans rfl
    have R_0 : w4.cell? ⟨w3.heap.size, 0, none⟩ = some (.int .i64 mr.kind) := (cellAt BR.out 0).trans rfl
    have R_1 : w4.cell? ⟨w3.heap.size, 1, none⟩ = some (.int .i64 mr.a) := (cellAt BR.out 1).trans rfl
    have R_2 : w4.cell? ⟨w3.heap.size, 2, none⟩ = some (.int .i64 mr.b) := (cellAt BR.out 2).trans rfl
    have R_3 : w4.cell? ⟨w3.heap.size, 3, none⟩ = some (.slice A4 n4 c4) := (cellAt BR.out 3).trans rfl
    go_wp2_with (first | ((with_reducible refine at_dst (N := 33) rfl ?_); rw [← hw4'.out]; clear hw4'))
    clear S_0 S_1 S_2 S_3 S_4 R_0 R_1 R_2 R_3
    refine (refApply_any HLG4.out HLR4.out HRD.out.2.2.1 HRR.out).mono ?_
    rintro e w5 ⟨A5, n5, c5, rfl, hat, h5⟩
    obtain ⟨tS, htS⟩ : ∃ x, x = (refApplyP s' mr).1 := ⟨_, rfl⟩
    obtain ⟨cd, hcd⟩ : ∃ x, x = (refApplyP s' mr).2 := ⟨_, rfl⟩
    rw [← htS] at hat
    rw [← htS, ← hcd]
    have HTS := hid htS
    have HCD := hid hcd
    have C5 := hid (C34.out.trans h5 (fun _ h _ => h))
    have HAT5 := hid (hat.mono (S' := fun j => w0.heap.size ≤ j ∧ j < w5.heap.size) (fun j hj => ⟨by
      have z1 := HC.out.size
      have z2 := C2.out.size
      have z3 := C34.out.size
      rcases hj.1 with ⟨h | h, _⟩ | h
      · exact h.1
      · have := h.1; omega
      · omega, hj.2⟩))
    have BS5 := hid (h5.blk BS4.out (fun h => h))
    have BT5 := hid (h5.blk BT4.out (fun h => h))
    have HLG5 := hid ((HLG4.out.chg h5 (fun _ _ h => h)).mono (S' := fun j => w0.heap.size ≤ j ∧ j < w5.heap.size) (fun j hj => ⟨hj.1, Nat.lt_of_lt_of_le hj.2 h5.size⟩))
    clear htS hcd hat h5
    obtain ⟨w6, hw6⟩ : ∃ W, W = w5.alloc (.cells #[.int .i64 tS.view, .int .i64 tS.normal, .int .i64 tS.commit, .int .i64 tS.active, .slice A5 n5 c5] 41) := ⟨_, rfl⟩
    have C6 := hid (show Chg (fun _ => False) w5 w6 by rw [hw6]; exact (Chg.refl _ w5).alloc _)
    have BQ := hid (show w6.heap[w5.heap.size]? = some (.cells #[.int .i64 tS.view, .int .i64 tS.normal, .int .i64 tS.commit, .int .i64 tS.active, .slice A5 n5 c5] 41 (0, 0)) by rw [hw6]; exact blk_new w5 _)
    have BS6 := hid (C6.out.blk BS5.out (fun h => h))
    have BT6 := hid (C6.out.blk BT5.out (fun h => h))
    have C56 := hid (C5.out.trans C6.out (fun _ h _ => h))
    have HLG6 := hid ((HLG5.out.chg C6.out (fun _ _ h => h)).mono (S' := fun j => w0.heap.size ≤ j ∧ j < w6.heap.size) (fun j hj => ⟨hj.1, Nat.lt_of_lt_of_le hj.2 C6.out.size⟩))
    have HAT6 := hid ((HAT5.out.chg C6.out (fun _ _ h => h)).mono (S' := fun j => w0.heap.size ≤ j ∧ j < w6.heap.size) (fun j hj => ⟨hj.1, Nat.lt_of_lt_of_le hj.2 C6.out.size⟩))
    have ltq : b2 < w5.heap.size := lt_of_blk BS5.out
    have hw6' := hid hw6
    clear hw6
    by_cases hz : cd = 0
    case neg =>
      have hz2 : (cd != 0) = true := by simp [hz]
      have HNO := hid (show applyS s' mr = none from refApplyP_no (by rw [← HCD.out]; exact hz))
      clear hz
      have G := hid (show rd13 st0 b = (s', u) by rw [HEQ.out, rd13_no HR.out (by rw [HP2.out]; exact HNO.out)]; rfl)
      have S_0 : w6.cell? ⟨b2, 0, none⟩ = some (.int .i64 s'.view) := (cellAt BS6.out 0).trans rfl
      have S_1 : w6.cell? ⟨b2, 1, none⟩ = some (.int .i64 s'.normal) := (cellAt BS6.out 1).trans rfl
      have S_2 : w6.cell? ⟨b2, 2, none⟩ = some (.int .i64 s'.commit) := (cellAt BS6.out 2).trans rfl
      have S_3 : w6.cell? ⟨b2, 3, none⟩ = some (.int .i64 s'.active) := (cellAt BS6.out 3).trans rfl
      have S_4 : w6.cell? ⟨b2, 4, none⟩ = some (.slice A' n' c') := (cellAt BS6.out 4).trans rfl
      have T_0 : w6.cell? ⟨w.heap.size, 0, none⟩ = some (.int .i64 0) := (cellAt BT6.out 0).trans rfl
      have T_f0 : w6.frozen? ⟨w.heap.size, 0, none⟩ = false := freeAt BT6.out 0
      have T_1 : w6.cell? ⟨w.heap.size, 1, none⟩ = some (.int .i64 0) := (cellAt BT6.out 1).trans rfl
      have T_f1 : w6.frozen? ⟨w.heap.size, 1, none⟩ = false := freeAt BT6.out 1
      have T_2 : w6.cell? ⟨w.heap.size, 2, none⟩ = some (.int .i64 0) := (cellAt BT6.out 2).trans rfl
      have T_f2 : w6.frozen? ⟨w.heap.size, 2, none⟩ = false := freeAt BT6.out 2
      have T_3 : w6.cell? ⟨w.heap.size, 3, none⟩ = some (.int .i64 0) := (cellAt BT6.out 3).trans rfl
      have T_f3 : w6.frozen? ⟨w.heap.size, 3, none⟩ = false := freeAt BT6.out 3
      have T_4 : w6.cell? ⟨w.heap.size, 4, none⟩ = some (.slice none 0 0) := (cellAt BT6.out 4).trans rfl
      have T_f4 : w6.frozen? ⟨w.heap.size, 4, none⟩ = false := freeAt BT6.out 4
      go_wp2_with (first | ((with_reducible refine at_dst (N := 40) rfl ?_); rw [← hw6'.out]; clear hw6'))
      clear S_0 S_1 S_2 S_3 S_4 T_0 T_f0 T_1 T_f1 T_2 T_f2 T_3 T_f3 T_4 T_f4
      obtain ⟨PB, PC⟩ := put_blk [(.int .i64 s'.view : Value), .int .i64 s'.normal, .int .i64 s'.commit, .int .i64 s'.active, .slice A' n' c'] w6 _ BT6.out rfl
      generalize hW : (((((w6.setCell ⟨w.heap.size, 0, none⟩ (.int .i64 s'.view)).setCell ⟨w.heap.size, 1, none⟩ (.int .i64 s'.normal)).setCell ⟨w.heap.size, 2, none⟩ (.int .i64 s'.commit)).setCell ⟨w.heap.size, 3, none⟩ (.int .i64 s'.active)).setCell ⟨w.heap.size, 4, none⟩ (.slice A' n' c')) = W
      have BT2 := hid (show W.heap[w.heap.size]? = some (.cells #[.int .i64 s'.view, .int .i64 s'.normal, .int .i64 s'.commit, .int .i64 s'.active, .slice A' n' c'] 41 (0, 0)) by rw [← hW]; exact PB)
      have CW := hid (show Chg (fun k => k = w.heap.size) w6 W by rw [← hW]; exact PC)
      clear PB PC hW
      have z0 : W.cell? ⟨w.heap.size, 0, none⟩ = some (.int .i64 s'.view) := (cellAt BT2.out 0).trans rfl
      have z1 : W.cell? ⟨w.heap.size, 1, none⟩ = some (.int .i64 s'.normal) := (cellAt BT2.out 1).trans rfl
      have z2 : W.cell? ⟨w.heap.size, 2, none⟩ = some (.int .i64 s'.commit) := (cellAt BT2.out 2).trans rfl
      have z3 : W.cell? ⟨w.heap.size, 3, none⟩ = some (.int .i64 s'.active) := (cellAt BT2.out 3).trans rfl
      have z4 : W.cell? ⟨w.heap.size, 4, none⟩ = some (.slice A' n' c') := (cellAt BT2.out 4).trans rfl
      refine bodyPost_ret (v := .tuple #[.agg #[.int .i64 s'.view, .int .i64 s'.normal, .int .i64 s'.commit, .int .i64 s'.active, .slice A' n' c'], .int .i64 (u : Int)]) (by simp [results, Try.results21, go_sem, z0, z1, z2, z3, z4]) rfl ?_
      have HAT := (HLG6.out.chg CW.out (fun j hj e => by have z := Z0.out; have h1 := hj.1; omega)).mono (S' := fun j => w.heap.size ≤ j ∧ j < W.heap.size) (fun j hj => ⟨by have z := Z0.out; have h1 := hj.1; omega, Nat.lt_of_lt_of_le hj.2 CW.out.size⟩)
      exact ⟨A', n', c', by rw [G.out], by rw [G.out]; exact HAT, (C0.out.trans (S := fun _ => False) (HC.out.trans (C56.out.mono (fun _ h _ => h.elim)) (fun _ h _ => h)) (fun j hj hl => by have z := Z0.out; omega)).trans CW.out (fun j hj hl => by omega)⟩
    subst hz
    have HYES := hid (show applyS s' mr = some tS by rw [HTS.out]; exact refApplyP_yes HCD.out.symm)
    have HUP := hid (show u + (10 + m) ≤ b.length by have h1 := HRL.out; have h2 := HN.out; omega)
    have HAT := hid (show rd13 st0 b = ((rd13 tS (b.drop (u + (10 + m)))).1, u + (10 + m) + (rd13 tS (b.drop (u + (10 + m)))).2) by
      rw [HEQ.out, rd13_ok HR.out (by rw [HP2.out]; exact HYES.out), ← HM.out, HBB.out, List.drop_drop]
      exact Prod.ext rfl (by simp only; omega))
    have HST := hid (applyS_right HRD.out.2.2.1 HRR.out HYES.out)
    have hu2 : u + (10 + m) ≤ n := by have h1 := HRL.out; omega
    have hu3 : u < u + (10 + m) := by omega
    have hm7 : 10 + m ≤ 100000 := by have h1 := HRL.out; omega
    have Q_0 : w6.cell? ⟨w5.heap.size, 0, none⟩ = some (.int .i64 tS.view) := (cellAt BQ.out 0).trans rfl
    have Q_1 : w6.cell? ⟨w5.heap.size, 1, none⟩ = some (.int .i64 tS.normal) := (cellAt BQ.out 1).trans rfl
    have Q_2 : w6.cell? ⟨w5.heap.size, 2, none⟩ = some (.int .i64 tS.commit) := (cellAt BQ.out 2).trans rfl
    have Q_3 : w6.cell? ⟨w5.heap.size, 3, none⟩ = some (.int .i64 tS.active) := (cellAt BQ.out 3).trans rfl
    have Q_4 : w6.cell? ⟨w5.heap.size, 4, none⟩ = some (.slice A5 n5 c5) := (cellAt BQ.out 4).trans rfl
    have S_0 : w6.cell? ⟨b2, 0, none⟩ = some (.int .i64 s'.view) := (cellAt BS6.out 0).trans rfl
    have S_f0 : w6.frozen? ⟨b2, 0, none⟩ = false := freeAt BS6.out 0
    have S_1 : w6.cell? ⟨b2, 1, none⟩ = some (.int .i64 s'.normal) := (cellAt BS6.out 1).trans rfl
    have S_f1 : w6.frozen? ⟨b2, 1, none⟩ = false := freeAt BS6.out 1
    have S_2 : w6.cell? ⟨b2, 2, none⟩ = some (.int .i64 s'.commit) := (cellAt BS6.out 2).trans rfl
    have S_f2 : w6.frozen? ⟨b2, 2, none⟩ = false := freeAt BS6.out 2
    have S_3 : w6.cell? ⟨b2, 3, none⟩ = some (.int .i64 s'.active) := (cellAt BS6.out 3).trans rfl
    have S_f3 : w6.frozen? ⟨b2, 3, none⟩ = false := freeAt BS6.out 3
    have S_4 : w6.cell? ⟨b2, 4, none⟩ = some (.slice A' n' c') := (cellAt BS6.out 4).trans rfl
    have S_f4 : w6.frozen? ⟨b2, 4, none⟩ = false := freeAt BS6.out 4
    go_wp2_with (first | ((with_reducible refine at_dst (N := 42) rfl ?_); rw [← hw6'.out]; clear hw6'))
    obtain ⟨PB, PC⟩ := put_blk [(.int .i64 tS.view : Value), .int .i64 tS.normal, .int .i64 tS.commit, .int .i64 tS.active, .slice A5 n5 c5] w6 _ BS6.out rfl
    have PS := hid PB
    have PD := hid PC
    have PAT := hid ((HAT6.out.chg PC (fun j hj e => by have z := Z0.out; have h1 := hj.1; omega)).bound)
    have CE := hid ((HC.out.trans (C56.out.mono (fun _ h _ => h.elim)) (fun _ h _ => h)).trans PC (fun _ h _ => h))
    clear PB PC
    go_roundw
    case measure => simp [intOf]; omega
    case rel => first | exact ⟨u + (10 + m), tS, by go_num, HUP.out, HAT.out, HST.out, A5, n5, c5, PS.out, PAT.out.mono (fun j hj => ⟨hj.1.1, hj.2⟩), CE.out⟩ | ((repeat apply Exists.intro); exact ⟨⟨u + (10 + m), tS, by go_num, HUP.out, HAT.out, HST.out, A5, n5, c5, PS.out, PAT.out.mono (fun j hj => ⟨hj.1.1, hj.2⟩), CE.out⟩, rfl⟩)
end Go.Proofs.Ytfpjickdkkhndaa.Pa
