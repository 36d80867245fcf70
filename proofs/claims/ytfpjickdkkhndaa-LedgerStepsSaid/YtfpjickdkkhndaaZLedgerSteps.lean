/- The law with its walk: LawsL, WLedgerSteps, LawLedgerSteps. -/
import Derived.Test.YtfpjickdkkhndaaMI
import Derived.Test.YtfpjickdkkhndaaMF
import Derived.Test.YtfpjickdkkhndaaRows
import Derived.WalkKit
import Derived.ProofKit
import Derived.OpenShut
import Derived.ShutString
import Derived.ChangeOld
import Derived.Below
import Derived.SizedLaws

/- Small words of the laws of ledgers: what a tape holds that only a ledger has written. -/

namespace Go.Proofs.Ytfpjickdkkhndaa.Pa

set_option linter.unusedVariables false

set_option linter.unusedSimpArgs false

open Go.RowKit Go.Proofs.Ytfpjickdkkhndaa.C

attribute [local go_sem] max2_int min2_int max_two min_two

open Go.Proofs.Ytfpjickdkkhndaa.T
theorem calm_ok {b : List UInt8} {s r : Int} (h0 : 0 ≤ s) (h1 : s ≤ b.length) (h2 : (b.length : Int) ≤ r) (h3 : r ≤ 1048576) : (calm b s r).Ok := ⟨h0, h1, h2, h3, by show (-1 : Int) ≤ -1; decide, by show (-1 : Int) ≤ 9223372036854775807; decide⟩
/-- A tape that holds just the records that lead to s, all safe. -/
def Kept (t : TS) (s : St) : Prop := ∃ Ls : List Rec, t = calm (framesB Ls) (framesB Ls).length 1048576 ∧ ((framesB Ls).length : Int) ≤ 1048576 ∧ (∀ r ∈ Ls, recR r = true) ∧ applyAll st0 Ls = some s ∧ stR s = true
theorem kept0 : Kept (calm [] 0 1048576) st0 := ⟨[], rfl, by decide, fun r h => (by cases h), rfl, stR0⟩
theorem Kept.ok {t : TS} {s : St} (h : Kept t s) : t.Ok := by
  obtain ⟨Ls, rfl, h1, _⟩ := h
  exact calm_ok (by omega) (by omega) h1 (by decide)
theorem Kept.opens {t : TS} {s : St} (h : Kept t s) : openT t = (t, 0) ∧ rd13 st0 t.b = (s, t.b.length) := by
  obtain ⟨Ls, rfl, h1, h2, h3, _⟩ := h
  have h4 := rd13_frames Ls st0 s [] (fun r hr => ⟨h2 r hr, by have := recB_most_ (h2 r hr); omega⟩) h3
  rw [List.append_nil, rd13_nil] at h4
  have h5 : rd13 st0 (calm (framesB Ls) (framesB Ls).length 1048576).b = (s, (framesB Ls).length) := h4
  refine ⟨?_, h5⟩
  unfold openT
  rw [h5, if_neg (by show ¬ (framesB Ls).length < (framesB Ls).length; omega)]
theorem Kept.right {t : TS} {s : St} (h : Kept t s) : stR s = true := by
  obtain ⟨_, _, _, _, _, h⟩ := h
  exact h
theorem Kept.safe {t : TS} {s : St} (h : Kept t s) : t.safe = t.b.length := by
  obtain ⟨Ls, rfl, _⟩ := h
  rfl
theorem Kept.room {t : TS} {s : St} (h : Kept t s) : t.b.length ≤ 1048576 := by
  obtain ⟨Ls, rfl, h1, _⟩ := h
  show (framesB Ls).length ≤ 1048576
  omega
/-- Saving keeps to that. -/
theorem Kept.save {t : TS} {s : St} (h : Kept t s) (br : Bool) (s2 : St) :
    Kept (saveT t s br s2).1 (saveT t s br s2).2.1 ∧ ((saveT t s br s2).2.2.2 = 0 → (saveT t s br s2).2.1 = s2 ∧ (saveT t s br s2).2.2.1 = false) ∧ ((saveT t s br s2).2.2.2 ≠ 0 → (saveT t s br s2).2.1 = s) := by
  have hk := h
  obtain ⟨Ls, rfl, h1, h2, h3, h4⟩ := h
  unfold saveT
  cases br
  case true => exact ⟨hk, fun h => (by cases h), fun _ => rfl⟩
  rw [if_neg (by decide)]
  by_cases hb : (betweenS s s2).2 = 0
  case neg =>
    rw [if_pos (.inl hb)]
    exact ⟨hk, fun h => absurd h hb, fun _ => rfl⟩
  obtain ⟨_, q2, q3, q4⟩ := between_ok hb
  by_cases hn : (betweenS s s2).1 = []
  case pos =>
    rw [if_pos (.inr hn)]
    rw [q3] at hn
    rw [hn] at q4
    have e : s = s2 := by injection q4
    exact ⟨hk, fun _ => ⟨e, rfl⟩, fun h => absurd hb h⟩
  rw [if_neg (by rintro (h | h); exact h hb; exact hn h), q3]
  by_cases hr : ((framesB (recordsS s s2)).length : Int) ≤ 1048576 - ((framesB Ls).length : Int)
  · rw [append_calm hr, if_neg (fun h => h rfl), sync_calm, if_neg (fun h => h rfl)]
    have e : framesB Ls ++ framesB (recordsS s s2) = framesB (Ls ++ recordsS s s2) := (framesB_append _ _).symm
    refine ⟨⟨Ls ++ recordsS s s2, by rw [← e], by rw [← e, List.length_append]; omega, fun r hr' => ?_, by rw [applyAll_append, h3]; exact q4, q2⟩, fun _ => ⟨rfl, rfl⟩, fun h => absurd rfl h⟩
    rcases List.mem_append.1 hr' with h | h
    · exact h2 r h
    · exact recordsS_right h4 q2 r h
  · rw [append_full (by omega), if_pos (by show (41 : Int) ≠ 0; decide)]
    exact ⟨hk, fun h => (by cases h), fun _ => rfl⟩
/-- The first state that is saved is taken, if it is right. -/
theorem save_first {s2 : St} (h : stR s2 = true) : (saveT (calm [] 0 1048576) st0 false s2).2.2.2 = 0 := by
  have hl := records_lead stR0 h
  have h1 := (stR_iff.1 h).1
  rw [if_pos ⟨by show (0 : Int) ≤ s2.view; omega, by show (0 : Int) ≤ s2.normal; omega, fun hc => by simp [st0] at hc, by show (0 : Int) ≤ s2.commit; omega⟩] at hl
  have hb : betweenS st0 s2 = (recordsS st0 s2, 0) := by unfold betweenS; rw [stR0, h, hl]; rfl
  have hm := framesB_most (recordsS_right stR0 h)
  have hf := recordsS_few (a := st0) h
  have hm2 : 6110 * (recordsS st0 s2).length ≤ 6110 * 70 := Nat.mul_le_mul_left _ hf
  unfold saveT
  rw [if_neg (by decide), hb]
  by_cases hn : recordsS st0 s2 = []
  · rw [if_pos (.inr hn)]
  · rw [if_neg (by rintro (h | h); exact h rfl; exact hn h), append_calm (by simp; omega), if_neg (fun h => h rfl), List.nil_append, sync_calm, if_neg (fun h => h rfl)]
theorem LedAt.bound {w : World} {S : Nat → Prop} {p g : Nat} {v : Value} {t : TS} {s : St} {br : Bool} {A : Option Addr} {n c : Nat} (h : LedAt w S p g v t s br A n c) : LedAt w (fun k => S k ∧ k < w.heap.size) p g v t s br A n c := h.mono (fun k hk hs => ⟨hs, hk⟩)
def OpenKept (g : Nat) (v : Value) (t : TS) (s : St) (w : World) (e' : Ending) (w' : World) : Prop :=
  ∃ p v' A' n' c' S', e' = .returned (.tuple #[.pointer (some ⟨p, 0, none⟩), .int .i64 0]) ∧ LedAt w' S' p g v' t s false A' n' c' ∧ (∀ k, S' k → (k = g ∨ v.ownBlock = some k) ∨ (w.heap.size ≤ k ∧ k < w'.heap.size)) ∧ Chg (fun k => k = g ∨ v.ownBlock = some k) w w'
theorem open_kept {w : World} {S : Nat → Prop} {g : Nat} {v : Value} {t : TS} {s : St} (h : TapeAt w S g v t) (hk : Kept t s) :
    Calls Try.prog 10 #[.pointer (some ⟨g, 0, none⟩)] w (OpenKept g v t s w) := by
  refine (Open_any (tape_core h) hk.ok).mono ?_
  intro e w' ho
  obtain ⟨h1, h2⟩ := hk.opens
  rcases ho with ⟨hne, _⟩ | ⟨_, v', A', n', c', rfl, hle, hc⟩
  · rw [h1] at hne; exact absurd rfl hne
  rw [h1, h2] at hle
  exact ⟨_, v', A', n', c', _, rfl, hle.bound, fun k hk => by rcases hk.1 with q | q; exact .inl q.1; exact .inr ⟨q, hk.2⟩, hc⟩
def SaveKept (S : Nat → Prop) (p g : Nat) (s s2 : St) (code : Int) (w : World) (e' : Ending) (w' : World) : Prop :=
  ∃ v' A' n' c' S' t' s' br', e' = .returned (.int .i64 code) ∧ LedAt w' S' p g v' t' s' br' A' n' c' ∧ Kept t' s' ∧ (code = 0 → s' = s2 ∧ br' = false) ∧ (code ≠ 0 → s' = s) ∧ (∀ k, S' k → S k ∨ (w.heap.size ≤ k ∧ k < w'.heap.size)) ∧ Chg S w w'
theorem save_kept {w : World} {S : Nat → Prop} {p g : Nat} {v : Value} {t : TS} {s : St} {br : Bool} {A : Option Addr} {n c : Nat} {R2 : Nat → Prop} {s2 : St} {B : Option Addr} {k d : Nat} (h : LedAt w S p g v t s br A n c) (hk : Kept t s) (h2 : Ty.At entryK w R2 B k d s2.log) (hR2 : ∀ j, R2 j → ¬ S j) :
    Calls Try.prog 13 #[.pointer (some ⟨p, 0, none⟩), .agg #[.int .i64 s2.view, .int .i64 s2.normal, .int .i64 s2.commit, .int .i64 s2.active, .slice B k d]] w (SaveKept S p g s s2 (saveT t s br s2).2.2.2 w) := by
  refine (Save_any h hk.ok h2 hR2).mono ?_
  rintro e w' ⟨rfl, v', A', n', c', hle, hc⟩
  obtain ⟨q1, q2, q3⟩ := hk.save br s2
  exact ⟨v', A', n', c', _, _, _, _, rfl, hle.bound, q1, q2, q3, fun k hk => by rcases hk.1 with q | q; exact .inl q; exact .inr ⟨q, hk.2⟩, hc⟩
end Go.Proofs.Ytfpjickdkkhndaa.Pa


/- The walk of the law LedgerSteps. -/

namespace Go.Proofs.Ytfpjickdkkhndaa.Pa

set_option linter.unusedVariables false

set_option linter.unusedSimpArgs false

open Go.RowKit Go.Proofs.Ytfpjickdkkhndaa.C

attribute [local go_sem] max2_int min2_int max_two min_two

set_option maxHeartbeats 4000000 in
set_option maxRecDepth 100000 in
theorem LedgerSteps_walk (w : World) (ca : Array Value) (a : St) (h : stK.K w (fun k => k < w.heap.size) a ca.toList) (cb : Array Value) (b : St) (hb : stK.K w (fun k => k < w.heap.size) b cb.toList) :
    Calls Try.prog 4 #[.agg ca, .agg cb] w fun e w' => e = .returned (.bool true) ∧ Below w.heap.size w w' := by
  obtain ⟨A, n, c, rfl, hl, _⟩ := st_open h
  obtain ⟨B, k, d, rfl, hl2, _⟩ := st_open hb
  have HFIN := hid (fun (w' : World) (hc : Chg (fun _ => False) w w') => (show Below w.heap.size w w' from hc.below (Nat.le_refl _) (fun _ h => h.elim)))
  obtain ⟨b2, hb2⟩ : ∃ q_, q_ = w.heap.size + 1 := ⟨_, rfl⟩
  obtain ⟨w0, hw0⟩ : ∃ q_, q_ = ((w.alloc (.cells #[.int .i64 a.view, .int .i64 a.normal, .int .i64 a.commit, .int .i64 a.active, .slice A n c] 32)).alloc (.cells #[.int .i64 b.view, .int .i64 b.normal, .int .i64 b.commit, .int .i64 b.active, .slice B k d] 32)) := ⟨_, rfl⟩
  have C0 := hid (show Chg (fun _ => False) w w0 by rw [hw0]; exact ((Chg.refl _ w).alloc _).alloc _)
  have BA := hid (show w0.heap[w.heap.size]? = some (.cells #[.int .i64 a.view, .int .i64 a.normal, .int .i64 a.commit, .int .i64 a.active, .slice A n c] 32 (0, 0)) by
    rw [hw0]
    refine blk_alloc ?_ _
    have := blk_new w (.cells #[.int .i64 a.view, .int .i64 a.normal, .int .i64 a.commit, .int .i64 a.active, .slice A n c] 32)
    simpa using this)
  have BB := hid (show w0.heap[b2]? = some (.cells #[.int .i64 b.view, .int .i64 b.normal, .int .i64 b.commit, .int .i64 b.active, .slice B k d] 32 (0, 0)) by
    rw [hw0, hb2]
    have := blk_new (w.alloc (.cells #[.int .i64 a.view, .int .i64 a.normal, .int .i64 a.commit, .int .i64 a.active, .slice A n c] 32)) (.cells #[.int .i64 b.view, .int .i64 b.normal, .int .i64 b.commit, .int .i64 b.active, .slice B k d] 32)
    simpa using this)
  have ne01 : w.heap.size ≠ b2 := by omega
  have ne10 : b2 ≠ w.heap.size := by omega
  have Hb2 := hid hb2
  have ltb2 : w.heap.size < b2 := by omega
  have SZ := hid (show w0.heap.size = w.heap.size + 2 by rw [hw0]; simp)
  have HA := hid (hl.chg C0.out (fun _ _ h => h))
  have HB := hid (hl2.chg C0.out (fun _ _ h => h))
  clear h hb hl hl2
  go_enter Try.func4, Try.ntmps4
  go_wp2_with fail
  rw [← hb2, ← hw0]
  clear hw0 hb2
  refine (anchor13_any w0).mono ?_
  rintro e w1 ⟨rfl, h1⟩
  have C1 := hid (C0.out.trans h1 (fun _ h _ => h))
  replace BA := hid ((h1).blk BA.out (fun h => h))
  replace BB := hid ((h1).blk BB.out (fun h => h))
  replace HA := hid (HA.out.chg (h1) (fun _ _ h => h))
  replace HB := hid (HB.out.chg (h1) (fun _ _ h => h))
  clear h1
  have A_0 : w1.cell? ⟨w.heap.size, 0, none⟩ = some (.int .i64 a.view) := (cellAt BA.out 0).trans rfl
  have A_1 : w1.cell? ⟨w.heap.size, 1, none⟩ = some (.int .i64 a.normal) := (cellAt BA.out 1).trans rfl
  have A_2 : w1.cell? ⟨w.heap.size, 2, none⟩ = some (.int .i64 a.commit) := (cellAt BA.out 2).trans rfl
  have A_3 : w1.cell? ⟨w.heap.size, 3, none⟩ = some (.int .i64 a.active) := (cellAt BA.out 3).trans rfl
  have A_4 : w1.cell? ⟨w.heap.size, 4, none⟩ = some (.slice A n c) := (cellAt BA.out 4).trans rfl
  go_wp2_with fail
  refine (smallstate_any HA.out).mono ?_
  rintro e w2 ⟨rfl, h2⟩
  have C2 := hid (C1.out.trans h2 (fun _ h _ => h))
  clear A_0 A_1 A_2 A_3 A_4
  replace BA := hid ((h2).blk BA.out (fun h => h))
  replace BB := hid ((h2).blk BB.out (fun h => h))
  replace HA := hid (HA.out.chg (h2) (fun _ _ h => h))
  replace HB := hid (HB.out.chg (h2) (fun _ _ h => h))
  clear h2
  cases hs : smallR a.log
  · go_wp2_with fail
    go_ret
    exact ⟨rfl, HFIN.out _ C2.out⟩
  have HPA := hid (smallR_put hs)
  have hn7 : n ≤ 70 := by have h1 := HA.out.1; have h2 := smallR_len hs; omega
  clear hs
  have A_0 : w2.cell? ⟨w.heap.size, 0, none⟩ = some (.int .i64 a.view) := (cellAt BA.out 0).trans rfl
  have A_1 : w2.cell? ⟨w.heap.size, 1, none⟩ = some (.int .i64 a.normal) := (cellAt BA.out 1).trans rfl
  have A_2 : w2.cell? ⟨w.heap.size, 2, none⟩ = some (.int .i64 a.commit) := (cellAt BA.out 2).trans rfl
  have A_3 : w2.cell? ⟨w.heap.size, 3, none⟩ = some (.int .i64 a.active) := (cellAt BA.out 3).trans rfl
  have A_4 : w2.cell? ⟨w.heap.size, 4, none⟩ = some (.slice A n c) := (cellAt BA.out 4).trans rfl
  have B_0 : w2.cell? ⟨b2, 0, none⟩ = some (.int .i64 b.view) := (cellAt BB.out 0).trans rfl
  have B_1 : w2.cell? ⟨b2, 1, none⟩ = some (.int .i64 b.normal) := (cellAt BB.out 1).trans rfl
  have B_2 : w2.cell? ⟨b2, 2, none⟩ = some (.int .i64 b.commit) := (cellAt BB.out 2).trans rfl
  have B_3 : w2.cell? ⟨b2, 3, none⟩ = some (.int .i64 b.active) := (cellAt BB.out 3).trans rfl
  have B_4 : w2.cell? ⟨b2, 4, none⟩ = some (.slice B k d) := (cellAt BB.out 4).trans rfl
  go_wp2_with fail
  refine (smallstate_any HB.out).mono ?_
  rintro e w3 ⟨rfl, h3⟩
  have C3 := hid (C2.out.trans h3 (fun _ h _ => h))
  clear A_0 A_1 A_2 A_3 A_4 B_0 B_1 B_2 B_3 B_4
  replace BA := hid ((h3).blk BA.out (fun h => h))
  replace BB := hid ((h3).blk BB.out (fun h => h))
  replace HA := hid (HA.out.chg (h3) (fun _ _ h => h))
  replace HB := hid (HB.out.chg (h3) (fun _ _ h => h))
  clear h3
  cases hs : smallR b.log
  · go_wp2_with fail
    go_ret
    exact ⟨rfl, HFIN.out _ C3.out⟩
  have HPB := hid (smallR_put hs)
  have hk7 : k ≤ 70 := by have h1 := HB.out.1; have h2 := smallR_len hs; omega
  clear hs
  have Z3 := hid (show w.heap.size + 2 ≤ w3.heap.size by have h1 := SZ.out; have h2 := lt_of_blk BB.out; have h3 := Hb2.out; omega)
  have HAX := hid (HA.out.bound)
  have A_0 : w3.cell? ⟨w.heap.size, 0, none⟩ = some (.int .i64 a.view) := (cellAt BA.out 0).trans rfl
  have A_1 : w3.cell? ⟨w.heap.size, 1, none⟩ = some (.int .i64 a.normal) := (cellAt BA.out 1).trans rfl
  have A_2 : w3.cell? ⟨w.heap.size, 2, none⟩ = some (.int .i64 a.commit) := (cellAt BA.out 2).trans rfl
  have A_3 : w3.cell? ⟨w.heap.size, 3, none⟩ = some (.int .i64 a.active) := (cellAt BA.out 3).trans rfl
  have A_4 : w3.cell? ⟨w.heap.size, 4, none⟩ = some (.slice A n c) := (cellAt BA.out 4).trans rfl
  have B_0 : w3.cell? ⟨b2, 0, none⟩ = some (.int .i64 b.view) := (cellAt BB.out 0).trans rfl
  have B_1 : w3.cell? ⟨b2, 1, none⟩ = some (.int .i64 b.normal) := (cellAt BB.out 1).trans rfl
  have B_2 : w3.cell? ⟨b2, 2, none⟩ = some (.int .i64 b.commit) := (cellAt BB.out 2).trans rfl
  have B_3 : w3.cell? ⟨b2, 3, none⟩ = some (.int .i64 b.active) := (cellAt BB.out 3).trans rfl
  have B_4 : w3.cell? ⟨b2, 4, none⟩ = some (.slice B k d) := (cellAt BB.out 4).trans rfl
  by_cases h12 : (12 : Int) < (n : Int) + (k : Int)
  · go_wp2_with fail
    go_ret
    exact ⟨rfl, HFIN.out _ C3.out⟩
  have h12' : decide ((12 : Int) < (n : Int) + (k : Int)) = false := decide_eq_false h12
  go_wp2_with fail
  clear A_0 A_1 A_2 A_3 A_4 B_0 B_1 B_2 B_3 B_4
  clear h12 h12'
  refine (T.new_any 1048576 w3 (by decide) (by decide)).mono ?_
  rintro e w4 ⟨rfl, ht, h4⟩
  obtain ⟨g1, hg1⟩ : ∃ q_, q_ = w3.heap.size := ⟨_, rfl⟩
  rw [← hg1] at ht ⊢
  have HG1 := hid hg1
  have HT4 := hid (tape_core ht)
  have C4 := hid (C3.out.trans h4 (fun _ h _ => h))
  have Z4 := hid (show g1 < w4.heap.size from lt_of_blk ht.blk)
  replace BA := hid ((h4).blk BA.out (fun h => h))
  replace BB := hid ((h4).blk BB.out (fun h => h))
  replace HA := hid (HA.out.chg (h4) (fun _ _ h => h))
  replace HB := hid (HB.out.chg (h4) (fun _ _ h => h))
  clear ht h4 hg1
  go_wp2_with fail
  refine (T.new_any 1048576 w4 (by decide) (by decide)).mono ?_
  rintro e w5 ⟨rfl, ht, h5⟩
  obtain ⟨g2, hg2⟩ : ∃ q_, q_ = w4.heap.size := ⟨_, rfl⟩
  rw [← hg2] at ht ⊢
  have HG2 := hid hg2
  have HU5 := hid (tape_core ht)
  have HT5 := hid (HT4.out.chg h5 (fun _ _ h => h))
  have C5 := hid (C4.out.trans h5 (fun _ h _ => h))
  have Z5 := hid (show g2 < w5.heap.size from lt_of_blk ht.blk)
  have Z := hid (show w.heap.size + 2 ≤ g1 ∧ g1 < g2 from ⟨by have h1 := HG1.out; have h2 := Z3.out; omega, by have h1 := HG2.out; have h2 := Z4.out; omega⟩)
  replace BA := hid ((h5).blk BA.out (fun h => h))
  replace BB := hid ((h5).blk BB.out (fun h => h))
  replace HA := hid (HA.out.chg (h5) (fun _ _ h => h))
  replace HB := hid (HB.out.chg (h5) (fun _ _ h => h))
  clear ht h5 hg2
  have HNO := hid (show ∀ j, (Value.slice none 0 0).ownBlock ≠ some j from fun j h => by simp [Value.ownBlock] at h)
  go_wp2_with fail
  refine (open_kept HT5.out kept0).mono ?_
  rintro e w6 ⟨p1, v6, A6, n6, c6, S1, rfl, hle, hs1, h6⟩
  have L1 := hid hle
  have C6 := hid (C5.out.trans (S := fun _ => False) h6 (fun j hj hl => by rcases hj with h | h; have := Z.out; omega; exact HNO.out j h))
  have HU6 := hid (HU5.out.chg h6 (fun j hj hk => by
    have z := Z.out
    rcases hj with h | h
    · rcases hk with h' | h'
      · omega
      · exact HNO.out j h'
    · exact HNO.out j h))
  have X1 := hid (show ∀ j, S1 j → w.heap.size + 2 ≤ j ∧ j ≠ g2 ∧ j < w6.heap.size from fun j hj => by
    have z := Z.out
    have z5 := Z5.out
    have z6 := h6.size
    rcases hs1 j hj with (h | h) | h
    · exact ⟨by omega, by omega, by omega⟩
    · exact absurd h (HNO.out j)
    · exact ⟨by omega, by omega, h.2⟩)
  have HA6 := hid (HA.out.chg h6 (fun j hj hk => by rcases hk with h | h; have := Z.out; have h2 : j < w.heap.size := hj; omega; exact HNO.out j h))
  have HB6 := hid (HB.out.chg h6 (fun j hj hk => by rcases hk with h | h; have := Z.out; have h2 : j < w.heap.size := hj; omega; exact HNO.out j h))
  replace BA := hid (h6.blk BA.out (fun hk => by rcases hk with h | h; have := Z.out; omega; exact HNO.out _ h))
  replace BB := hid (h6.blk BB.out (fun hk => by have hb := Hb2.out; rcases hk with h | h; have := Z.out; omega; exact HNO.out _ h))
  clear hle hs1 h6
  go_wp2_with fail
  refine (open_kept HU6.out kept0).mono ?_
  rintro e w7 ⟨p2, v7, A7, n7, c7, S2, rfl, hle, hs2, h7⟩
  have L2 := hid hle
  have C7 := hid (C6.out.trans (S := fun _ => False) h7 (fun j hj hl => by rcases hj with h | h; have := Z.out; omega; exact HNO.out j h))
  replace L1 := hid (L1.out.chg h7 (fun j hj hk => by rcases hk with h | h; exact (X1.out j hj).2.1 h; exact HNO.out j h))
  have X2 := hid (show ∀ j, S2 j → w.heap.size + 2 ≤ j ∧ j < w7.heap.size ∧ ¬ S1 j from fun j hj => by
    have z := Z.out
    have z5 := Z5.out
    have z6 := h7.size
    have zc := lt_of_blk HU6.out.blk
    rcases hs2 j hj with (h | h) | h
    · exact ⟨by omega, by omega, fun h1 => (X1.out j h1).2.1 h⟩
    · exact absurd h (HNO.out j)
    · exact ⟨by omega, h.2, fun h1 => by have := (X1.out j h1).2.2; omega⟩)
  replace HA := hid (HA6.out.chg h7 (fun j hj hk => by rcases hk with h | h; have := Z.out; have h2 : j < w.heap.size := hj; omega; exact HNO.out j h))
  replace HB := hid (HB6.out.chg h7 (fun j hj hk => by rcases hk with h | h; have := Z.out; have h2 : j < w.heap.size := hj; omega; exact HNO.out j h))
  replace BA := hid (h7.blk BA.out (fun hk => by rcases hk with h | h; have := Z.out; omega; exact HNO.out _ h))
  replace BB := hid (h7.blk BB.out (fun hk => by have hb := Hb2.out; rcases hk with h | h; have := Z.out; omega; exact HNO.out _ h))
  have Z67 := hid (show w6.heap.size ≤ w7.heap.size from h7.size)
  have X1' := hid (show ∀ j, S1 j → w.heap.size + 2 ≤ j ∧ ¬ S2 j ∧ j < w7.heap.size from fun j hj => ⟨(X1.out j hj).1, fun h => (X2.out j h).2.2 hj, by have h1 := (X1.out j hj).2.2; have h2 := Z67.out; omega⟩)
  have X2' := hid (show ∀ j, S2 j → w.heap.size + 2 ≤ j ∧ j < w7.heap.size from fun j hj => ⟨(X2.out j hj).1, (X2.out j hj).2.1⟩)
  have ZW := hid (show w.heap.size + 2 ≤ w7.heap.size by have := X1'.out p1 L1.out.inS; omega)
  clear hle hs2 h7 HA6 HB6 HU5 HU6 HT4 HT5 X1 X2 HNO
  have A_0 : w7.cell? ⟨w.heap.size, 0, none⟩ = some (.int .i64 a.view) := (cellAt BA.out 0).trans rfl
  have A_1 : w7.cell? ⟨w.heap.size, 1, none⟩ = some (.int .i64 a.normal) := (cellAt BA.out 1).trans rfl
  have A_2 : w7.cell? ⟨w.heap.size, 2, none⟩ = some (.int .i64 a.commit) := (cellAt BA.out 2).trans rfl
  have A_3 : w7.cell? ⟨w.heap.size, 3, none⟩ = some (.int .i64 a.active) := (cellAt BA.out 3).trans rfl
  have A_4 : w7.cell? ⟨w.heap.size, 4, none⟩ = some (.slice A n c) := (cellAt BA.out 4).trans rfl
  go_wp2_with fail
  refine (save_kept L1.out kept0 HA.out (fun j hj hs => by have := (X1'.out j hs).1; have h2 : j < w.heap.size := hj; omega)).mono ?_
  rintro e w8 ⟨v8, A8, n8, c8, S1b, t1, s1, br1, rfl, hle, hk1, hz, _, hs, h8⟩
  obtain ⟨cd1, hcd1⟩ : ∃ q_, q_ = (saveT (T.calm [] 0 1048576) st0 false a).2.2.2 := ⟨_, rfl⟩
  rw [← hcd1] at hz
  rw [← hcd1]
  clear hcd1
  have C8 := hid (C7.out.trans (S := fun _ => False) h8 (fun j hj hl => by have := (X1'.out j hj).1; omega))
  clear A_0 A_1 A_2 A_3 A_4
  by_cases hc1 : cd1 = 0
  case neg =>
    have hc2 : (cd1 != 0) = true := by simp [hc1]
    clear hc1 hz hle hk1 hs h8
    go_wp2_with fail
    go_ret
    exact ⟨rfl, HFIN.out _ C8.out⟩
  subst hc1
  obtain ⟨e1, rfl⟩ := hz rfl
  obtain rfl := e1.symm
  have K1 := hid hk1
  replace L1 := hid hle
  replace L2 := hid (L2.out.chg h8 (fun j hj h => (X1'.out j h).2.1 hj))
  replace HA := hid (HA.out.chg h8 (fun j hj h => by have := (X1'.out j h).1; have h2 : j < w.heap.size := hj; omega))
  replace HB := hid (HB.out.chg h8 (fun j hj h => by have := (X1'.out j h).1; have h2 : j < w.heap.size := hj; omega))
  replace BB := hid (h8.blk BB.out (fun hk => by have := (X1'.out _ hk).1; have := Hb2.out; omega))
  have X3 := hid (show ∀ j, S1b j → w.heap.size + 2 ≤ j ∧ ¬ S2 j ∧ j < w8.heap.size from fun j hj => by
    have z := h8.size
    rcases hs j hj with h | h
    · have h2 := X1'.out j h; exact ⟨h2.1, h2.2.1, by omega⟩
    · have hw := ZW.out; exact ⟨by omega, fun h2 => by have := (X2'.out j h2).2; omega, h.2⟩)
  have Z8 := hid (show w7.heap.size ≤ w8.heap.size from h8.size)
  clear hz hle hk1 hs h8 X1'
  have B_0 : w8.cell? ⟨b2, 0, none⟩ = some (.int .i64 b.view) := (cellAt BB.out 0).trans rfl
  have B_1 : w8.cell? ⟨b2, 1, none⟩ = some (.int .i64 b.normal) := (cellAt BB.out 1).trans rfl
  have B_2 : w8.cell? ⟨b2, 2, none⟩ = some (.int .i64 b.commit) := (cellAt BB.out 2).trans rfl
  have B_3 : w8.cell? ⟨b2, 3, none⟩ = some (.int .i64 b.active) := (cellAt BB.out 3).trans rfl
  have B_4 : w8.cell? ⟨b2, 4, none⟩ = some (.slice B k d) := (cellAt BB.out 4).trans rfl
  go_wp2_with fail
  refine (save_kept L1.out K1.out HB.out (fun j hj hs => by have := (X3.out j hs).1; have h2 : j < w.heap.size := hj; omega)).mono ?_
  rintro e w9 ⟨v9, A9, n9, c9, S1c, t2, s2, br2, rfl, hle, hk1, hz, _, hs, h9⟩
  obtain ⟨cd2, hcd2⟩ : ∃ q_, q_ = (saveT t1 a false b).2.2.2 := ⟨_, rfl⟩
  rw [← hcd2] at hz
  rw [← hcd2]
  clear hcd2
  have C9 := hid (C8.out.trans (S := fun _ => False) h9 (fun j hj hl => by have := (X3.out j hj).1; omega))
  clear B_0 B_1 B_2 B_3 B_4
  by_cases hc1 : cd2 = 0
  case neg =>
    have hc2 : (cd2 != 0) = true := by simp [hc1]
    clear hc1 hz hle hk1 hs h9
    go_wp2_with fail
    go_ret
    exact ⟨rfl, HFIN.out _ C9.out⟩
  subst hc1
  obtain ⟨e1, rfl⟩ := hz rfl
  obtain rfl := e1.symm
  replace K1 := hid hk1
  replace L1 := hid hle
  replace L2 := hid (L2.out.chg h9 (fun j hj h => (X3.out j h).2.1 hj))
  replace HB := hid (HB.out.chg h9 (fun j hj h => by have := (X3.out j h).1; have h2 : j < w.heap.size := hj; omega))
  replace BB := hid (h9.blk BB.out (fun hk => by have := (X3.out _ hk).1; have := Hb2.out; omega))
  have X4 := hid (show ∀ j, S1c j → w.heap.size + 2 ≤ j ∧ ¬ S2 j ∧ j < w9.heap.size from fun j hj => by
    have z := h9.size
    rcases hs j hj with h | h
    · have h2 := X3.out j h; exact ⟨h2.1, h2.2.1, by omega⟩
    · have hw := ZW.out; have h5 := Z8.out; exact ⟨by omega, fun h2 => by have := (X2'.out j h2).2; omega, h.2⟩)
  have Z9 := hid (show w8.heap.size ≤ w9.heap.size from h9.size)
  clear hz hle hk1 hs h9 X3
  have B_0 : w9.cell? ⟨b2, 0, none⟩ = some (.int .i64 b.view) := (cellAt BB.out 0).trans rfl
  have B_1 : w9.cell? ⟨b2, 1, none⟩ = some (.int .i64 b.normal) := (cellAt BB.out 1).trans rfl
  have B_2 : w9.cell? ⟨b2, 2, none⟩ = some (.int .i64 b.commit) := (cellAt BB.out 2).trans rfl
  have B_3 : w9.cell? ⟨b2, 3, none⟩ = some (.int .i64 b.active) := (cellAt BB.out 3).trans rfl
  have B_4 : w9.cell? ⟨b2, 4, none⟩ = some (.slice B k d) := (cellAt BB.out 4).trans rfl
  go_wp2_with fail
  have HFS := hid (save_first K1.out.right)
  refine (save_kept L2.out kept0 HB.out (fun j hj hs => by have := (X2'.out j hs).1; have h2 : j < w.heap.size := hj; omega)).mono ?_
  rw [HFS.out]
  rintro e w10 ⟨v10, A10, n10, c10, S2b, u2, s3, br3, rfl, hle, hk2, hz, _, hs, h10⟩
  obtain ⟨e1, rfl⟩ := hz rfl
  obtain rfl := e1.symm
  have C10 := hid (C9.out.trans (S := fun _ => False) h10 (fun j hj hl => by have := (X2'.out j hj).1; omega))
  clear B_0 B_1 B_2 B_3 B_4
  have K2 := hid hk2
  replace L2 := hid hle
  replace L1 := hid (L1.out.chg h10 (fun j hj h => (X4.out j hj).2.1 h))
  have X5 := hid (show ∀ j, S2b j → w.heap.size + 2 ≤ j ∧ ¬ S1c j ∧ j < w10.heap.size from fun j hj => by
    have z := h10.size
    have z8 := Z8.out
    have z9 := Z9.out
    rcases hs j hj with h | h
    · have h2 := X2'.out j h; exact ⟨h2.1, fun h3 => (X4.out j h3).2.1 h, by omega⟩
    · have hw := ZW.out; exact ⟨by omega, fun h2 => by have := (X4.out j h2).2.2; omega, h.2⟩)
  have Z10 := hid (show w9.heap.size ≤ w10.heap.size from h10.size)
  clear hz hle hk2 hs h10 X2'
  go_wp2_with fail
  refine (open_kept L1.out.tape K1.out).mono ?_
  rintro e w11 ⟨p3, v11, A11, n11, c11, S3, rfl, hle, hs, h11⟩
  have L3 := hid hle
  have C11 := hid (C10.out.trans (S := fun _ => False) h11 (fun j hj hl => by have := (X4.out j (L1.out.tapeS j hj).1).1; omega))
  replace L2 := hid (L2.out.chg h11 (fun j hj h => (X5.out j hj).2.1 (L1.out.tapeS j h).1))
  have X6 := hid (show ∀ j, S3 j → ¬ S2b j from fun j hj h2 => by
    rcases hs j hj with h | h
    · exact (X5.out j h2).2.1 (L1.out.tapeS j h).1
    · have := (X5.out j h2).2.2; omega)
  clear hle hs h11
  go_wp2_with fail
  refine (open_kept L2.out.tape K2.out).mono ?_
  rintro e w12 ⟨p4, v12, A12, n12, c12, S4, rfl, hle, hs, h12⟩
  have L4 := hid hle
  have C12 := hid (C11.out.trans (S := fun _ => False) h12 (fun j hj hl => by have := (X5.out j (L2.out.tapeS j hj).1).1; omega))
  replace L3 := hid (L3.out.chg h12 (fun j hj h => X6.out j hj (L2.out.tapeS j h).1))
  clear hle hs h12
  have HRB := hid K1.out.right
  have HFT := hid (fits_right (stR_iff.1 HRB.out).2)
  have HLN := hid (show b.log.length ≤ 1000000 by have := (stR_iff.1 HRB.out).1; omega)
  go_wp2_with fail
  refine (State_any L3.out).mono ?_
  rintro e w13 ⟨A13, n13, c13, rfl, hat, h13⟩
  have HX := hid hat
  have C13 := hid (C12.out.trans h13 (fun _ h _ => h))
  replace L4 := hid (L4.out.chg h13 (fun _ _ h => h))
  clear hat h13
  go_wp2_with fail
  refine (madestate_any HX.out (by have h1 := HX.out.1; have h2 := HLN.out; omega) (fun e he => (HFT.out e he).1)).mono ?_
  rintro e w14 ⟨A14, c14, rfl, hat, h14⟩
  obtain ⟨n14, hn14⟩ : ∃ q_, q_ = b.log.length := ⟨_, rfl⟩
  rw [← hn14] at hat ⊢
  have HY := hid hat.bound
  have C14 := hid (C13.out.trans h14 (fun _ h _ => h))
  replace L4 := hid (L4.out.chg h14 (fun _ _ h => h))
  clear hat h14
  go_wp2_with fail
  refine (State_any L4.out).mono ?_
  rintro e w15 ⟨A15, n15, c15, rfl, hat, h15⟩
  replace HX := hid hat
  have C15 := hid (C14.out.trans h15 (fun _ h _ => h))
  replace HY := hid (HY.out.chg h15 (fun _ _ h => h))
  clear hat h15
  go_wp2_with fail
  refine (madestate_any HX.out (by have h1 := HX.out.1; have h2 := HLN.out; omega) (fun e he => (HFT.out e he).1)).mono ?_
  rintro e w16 ⟨A16, c16, rfl, hat, h16⟩
  rw [← hn14] at hat ⊢
  have HQ := hid hat
  have C16 := hid (C15.out.trans h16 (fun _ h _ => h))
  replace HY := hid (HY.out.chg h16 (fun _ _ h => h))
  clear hat h16 hn14
  go_wp2_with fail
  refine (refstsame_any HY.out HQ.out).mono ?_
  rintro e w17 ⟨rfl, h17⟩
  rw [decide_eq_true (rfl : b = b)]
  have C17 := hid (C16.out.trans h17 (fun _ h _ => h))
  clear h17
  go_wp2_with fail
  go_ret
  exact ⟨rfl, HFIN.out _ C17.out⟩
end Go.Proofs.Ytfpjickdkkhndaa.Pa

/- The row of the law LedgerSteps, out of its walk: for every input that can be read the law returns true, and each argument reads behind the call as it did. -/
namespace Go.Proofs.Ytfpjickdkkhndaa.ledgerSteps
open Go.ChangeShapes Go.WideShapes Go.ChangeAt Go.RowKit
open Go.ChangeMaps (open_string shut_string)
set_option linter.unusedVariables false
theorem own : ownKnob Try.prog.godebug = none := by kernel_rfl
theorem laidOut : laidOutB Try.prog = true := by kernel_rfl
set_option maxRecDepth 100000 in
theorem lifted (os : Os) (started : os.Started) (H : Type) (enc : TypeId × Value → H) :
    ReturnsInHanded {} Try.checked os 4 .any (Rows.ledgerStepsSpec.pre6 enc Try.prog Try.f4 Rows.ledgerStepsRow.domain false) (Rows.ledgerStepsSpec.post enc Try.prog Try.f4 false true false false) := by
  refine returnsInHanded_of_change_sized (C := Try.checked) own started (by kernel_rfl) Try.func4
    (ChangeSpec.witness6 (enc := enc) (C := Try.checked) false ⟨#[], #[.agg #[.int .i64 0, .int .i64 0, .int .i64 0, .int .i64 0, .slice none 0 0], .agg #[.int .i64 0, .int .i64 0, .int .i64 0, .int .i64 0, .slice none 0 0]], []⟩ 8 (by kernel_rfl) (by kernel_rfl) (by kernel_rfl) (by kernel_rfl)) ?_
  intro W base args ds gs before hval0 hW hcnd hsz0 _
  have hval : ∀ (j : Nat) t v, Try.f4.params[j]? = some t → args[j]? = some v → Value.okWide Try.prog W .any base t v := hval0
  have hW' := hW
  obtain ⟨p, q, hA0, hV, rfl, hfz, hnd⟩ := hW
  have hA : DataW.TrodAll enc Try.prog W 0 (fun _ => true) true Try.f4.params.toList args.toList ds p := hA0
  rw [Try.params4] at hA hval
  obtain ⟨v0, vs0, d0, ds0, p0, q0, hargs, rfl, rfl, h0, r0⟩ := trodAll_cons hA
  obtain ⟨v1, vs1, d1, ds1, p1, q1, rfl, rfl, rfl, h1, r1⟩ := trodAll_cons r0
  obtain ⟨rfl, rfl, rfl⟩ := trodAll_nil r1
  obtain rfl : args = #[v0, v1] := by cases args; simp_all
  obtain ⟨rfl, rfl⟩ := trodVars_none hV
  have k0 := h0
  have lt0 : ∀ x ∈ p0, x.block < W.heap.size := by obtain ⟨m, hm⟩ := k0; exact DataW.trod_lt m _ _ _ hm
  obtain ⟨cs0, rfl, _⟩ := okWide_struct Try.underlying32 (hval 0 32 v0 rfl rfl)
  obtain ⟨z0, w0⟩ : ∃ x, Pa.stK.K W (fun k => k < W.heap.size) x cs0.toList := by
    obtain ⟨fuel, hf⟩ := h0
    exact Pa.opens_st.opens enc W _ _ fuel _ _ hf
  have k1 := h1
  have lt1 : ∀ x ∈ p1, x.block < W.heap.size := by obtain ⟨m, hm⟩ := k1; exact DataW.trod_lt m _ _ _ hm
  obtain ⟨cs1, rfl, _⟩ := okWide_struct Try.underlying32 (hval 1 32 v1 rfl rfl)
  obtain ⟨z1, w1⟩ : ∃ x, Pa.stK.K W (fun k => k < W.heap.size) x cs1.toList := by
    obtain ⟨fuel, hf⟩ := h1
    exact Pa.opens_st.opens enc W _ _ fuel _ _ hf
  clear hA0 hval0 hsz0
  refine (Pa.LedgerSteps_walk W cs0 z0 w0 cs1 z1 w1).mono fun e W' ⟨he, bel⟩ => ?_
  subst he
  exact ⟨_, rfl, _, _, _, [], _, [], hW', trodAll_mk1 (shut_bool (Try.underlying4) _), (trodAll_cons_mk (Below.trod laidOut (by kernel_rfl) (of_decide_eq_true (by kernel_rfl)) k0 bel lt0) (trodAll_cons_mk (Below.trod laidOut (by kernel_rfl) (of_decide_eq_true (by kernel_rfl)) k1 bel lt1) trodAll_mk0)), rfl, bel.frame _, fun h => by cases h⟩
theorem over : Rows.ledgerStepsRow.holds Try.pinned (OpenSpec.ofChange Rows.ledgerStepsSpec) :=
  OpenClaim.holds_of_wide 4 Try.f4 rfl rfl rfl rfl rfl rfl rfl ⟨rfl, rfl, rfl, rfl, rfl⟩ rfl rfl rfl rfl rfl (by kernel_rfl) Try.func4 (by kernel_rfl)
    (of_decide_eq_true (by kernel_rfl)) (by unfold Func.isWrapper; first | (rw [if_pos (by decide +kernel)]; kernel_rfl) | (rw [if_neg (by decide +kernel)]; exact ⟨rfl, rfl⟩))
    (fun os started H enc _ => lifted os started H enc)
end Go.Proofs.Ytfpjickdkkhndaa.ledgerSteps
namespace Go.Proofs.Ytfpjickdkkhndaa
theorem ledgerSteps_holds : Rows.LedgerStepsSaid := ledgerSteps.over
#print axioms ledgerSteps_holds
end Go.Proofs.Ytfpjickdkkhndaa
