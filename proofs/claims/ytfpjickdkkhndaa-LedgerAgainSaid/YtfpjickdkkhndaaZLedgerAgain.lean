/- The law with its walk: LawsL, WLedgerAgain, LawLedgerAgain. -/
import Derived.Test.YtfpjickdkkhndaaMI
import Derived.Test.YtfpjickdkkhndaaMF
import Derived.Test.YtfpjickdkkhndaaRows
import Derived.WalkKit
import Derived.ProofKit
import Derived.OpenShut
import Derived.ShutString
import Derived.ChangeOld
import Derived.Below
import Derived.SizedLaws

/- Small words of the laws of ledgers: what a tape holds that only a ledger has written. -/

namespace Go.Proofs.Ytfpjickdkkhndaa.Pa

set_option linter.unusedVariables false

set_option linter.unusedSimpArgs false

open Go.RowKit Go.Proofs.Ytfpjickdkkhndaa.C

attribute [local go_sem] max2_int min2_int max_two min_two

open Go.Proofs.Ytfpjickdkkhndaa.T
theorem calm_ok {b : List UInt8} {s r : Int} (h0 : 0 ≤ s) (h1 : s ≤ b.length) (h2 : (b.length : Int) ≤ r) (h3 : r ≤ 1048576) : (calm b s r).Ok := ⟨h0, h1, h2, h3, by show (-1 : Int) ≤ -1; decide, by show (-1 : Int) ≤ 9223372036854775807; decide⟩
/-- A tape that holds just the records that lead to s, all safe. -/
def Kept (t : TS) (s : St) : Prop := ∃ Ls : List Rec, t = calm (framesB Ls) (framesB Ls).length 1048576 ∧ ((framesB Ls).length : Int) ≤ 1048576 ∧ (∀ r ∈ Ls, recR r = true) ∧ applyAll st0 Ls = some s ∧ stR s = true
theorem kept0 : Kept (calm [] 0 1048576) st0 := ⟨[], rfl, by decide, fun r h => (by cases h), rfl, stR0⟩
theorem Kept.ok {t : TS} {s : St} (h : Kept t s) : t.Ok := by
  obtain ⟨Ls, rfl, h1, _⟩ := h
  exact calm_ok (by omega) (by omega) h1 (by decide)
theorem Kept.opens {t : TS} {s : St} (h : Kept t s) : openT t = (t, 0) ∧ rd13 st0 t.b = (s, t.b.length) := by
  obtain ⟨Ls, rfl, h1, h2, h3, _⟩ := h
  have h4 := rd13_frames Ls st0 s [] (fun r hr => ⟨h2 r hr, by have := recB_most_ (h2 r hr); omega⟩) h3
  rw [List.append_nil, rd13_nil] at h4
  have h5 : rd13 st0 (calm (framesB Ls) (framesB Ls).length 1048576).b = (s, (framesB Ls).length) := h4
  refine ⟨?_, h5⟩
  unfold openT
  rw [h5, if_neg (by show ¬ (framesB Ls).length < (framesB Ls).length; omega)]
theorem Kept.right {t : TS} {s : St} (h : Kept t s) : stR s = true := by
  obtain ⟨_, _, _, _, _, h⟩ := h
  exact h
theorem Kept.safe {t : TS} {s : St} (h : Kept t s) : t.safe = t.b.length := by
  obtain ⟨Ls, rfl, _⟩ := h
  rfl
theorem Kept.room {t : TS} {s : St} (h : Kept t s) : t.b.length ≤ 1048576 := by
  obtain ⟨Ls, rfl, h1, _⟩ := h
  show (framesB Ls).length ≤ 1048576
  omega
/-- Saving keeps to that. -/
theorem Kept.save {t : TS} {s : St} (h : Kept t s) (br : Bool) (s2 : St) :
    Kept (saveT t s br s2).1 (saveT t s br s2).2.1 ∧ ((saveT t s br s2).2.2.2 = 0 → (saveT t s br s2).2.1 = s2 ∧ (saveT t s br s2).2.2.1 = false) ∧ ((saveT t s br s2).2.2.2 ≠ 0 → (saveT t s br s2).2.1 = s) := by
  have hk := h
  obtain ⟨Ls, rfl, h1, h2, h3, h4⟩ := h
  unfold saveT
  cases br
  case true => exact ⟨hk, fun h => (by cases h), fun _ => rfl⟩
  rw [if_neg (by decide)]
  by_cases hb : (betweenS s s2).2 = 0
  case neg =>
    rw [if_pos (.inl hb)]
    exact ⟨hk, fun h => absurd h hb, fun _ => rfl⟩
  obtain ⟨_, q2, q3, q4⟩ := between_ok hb
  by_cases hn : (betweenS s s2).1 = []
  case pos =>
    rw [if_pos (.inr hn)]
    rw [q3] at hn
    rw [hn] at q4
    have e : s = s2 := by injection q4
    exact ⟨hk, fun _ => ⟨e, rfl⟩, fun h => absurd hb h⟩
  rw [if_neg (by rintro (h | h); exact h hb; exact hn h), q3]
  by_cases hr : ((framesB (recordsS s s2)).length : Int) ≤ 1048576 - ((framesB Ls).length : Int)
  · rw [append_calm hr, if_neg (fun h => h rfl), sync_calm, if_neg (fun h => h rfl)]
    have e : framesB Ls ++ framesB (recordsS s s2) = framesB (Ls ++ recordsS s s2) := (framesB_append _ _).symm
    refine ⟨⟨Ls ++ recordsS s s2, by rw [← e], by rw [← e, List.length_append]; omega, fun r hr' => ?_, by rw [applyAll_append, h3]; exact q4, q2⟩, fun _ => ⟨rfl, rfl⟩, fun h => absurd rfl h⟩
    rcases List.mem_append.1 hr' with h | h
    · exact h2 r h
    · exact recordsS_right h4 q2 r h
  · rw [append_full (by omega), if_pos (by show (41 : Int) ≠ 0; decide)]
    exact ⟨hk, fun h => (by cases h), fun _ => rfl⟩
/-- The first state that is saved is taken, if it is right. -/
theorem save_first {s2 : St} (h : stR s2 = true) : (saveT (calm [] 0 1048576) st0 false s2).2.2.2 = 0 := by
  have hl := records_lead stR0 h
  have h1 := (stR_iff.1 h).1
  rw [if_pos ⟨by show (0 : Int) ≤ s2.view; omega, by show (0 : Int) ≤ s2.normal; omega, fun hc => by simp [st0] at hc, by show (0 : Int) ≤ s2.commit; omega⟩] at hl
  have hb : betweenS st0 s2 = (recordsS st0 s2, 0) := by unfold betweenS; rw [stR0, h, hl]; rfl
  have hm := framesB_most (recordsS_right stR0 h)
  have hf := recordsS_few (a := st0) h
  have hm2 : 6110 * (recordsS st0 s2).length ≤ 6110 * 70 := Nat.mul_le_mul_left _ hf
  unfold saveT
  rw [if_neg (by decide), hb]
  by_cases hn : recordsS st0 s2 = []
  · rw [if_pos (.inr hn)]
  · rw [if_neg (by rintro (h | h); exact h rfl; exact hn h), append_calm (by simp; omega), if_neg (fun h => h rfl), List.nil_append, sync_calm, if_neg (fun h => h rfl)]
theorem LedAt.bound {w : World} {S : Nat → Prop} {p g : Nat} {v : Value} {t : TS} {s : St} {br : Bool} {A : Option Addr} {n c : Nat} (h : LedAt w S p g v t s br A n c) : LedAt w (fun k => S k ∧ k < w.heap.size) p g v t s br A n c := h.mono (fun k hk hs => ⟨hs, hk⟩)
def OpenKept (g : Nat) (v : Value) (t : TS) (s : St) (w : World) (e' : Ending) (w' : World) : Prop :=
  ∃ p v' A' n' c' S', e' = .returned (.tuple #[.pointer (some ⟨p, 0, none⟩), .int .i64 0]) ∧ LedAt w' S' p g v' t s false A' n' c' ∧ (∀ k, S' k → (k = g ∨ v.ownBlock = some k) ∨ (w.heap.size ≤ k ∧ k < w'.heap.size)) ∧ Chg (fun k => k = g ∨ v.ownBlock = some k) w w'
theorem open_kept {w : World} {S : Nat → Prop} {g : Nat} {v : Value} {t : TS} {s : St} (h : TapeAt w S g v t) (hk : Kept t s) :
    Calls Try.prog 10 #[.pointer (some ⟨g, 0, none⟩)] w (OpenKept g v t s w) := by
  refine (Open_any (tape_core h) hk.ok).mono ?_
  intro e w' ho
  obtain ⟨h1, h2⟩ := hk.opens
  rcases ho with ⟨hne, _⟩ | ⟨_, v', A', n', c', rfl, hle, hc⟩
  · rw [h1] at hne; exact absurd rfl hne
  rw [h1, h2] at hle
  exact ⟨_, v', A', n', c', _, rfl, hle.bound, fun k hk => by rcases hk.1 with q | q; exact .inl q.1; exact .inr ⟨q, hk.2⟩, hc⟩
def SaveKept (S : Nat → Prop) (p g : Nat) (s s2 : St) (code : Int) (w : World) (e' : Ending) (w' : World) : Prop :=
  ∃ v' A' n' c' S' t' s' br', e' = .returned (.int .i64 code) ∧ LedAt w' S' p g v' t' s' br' A' n' c' ∧ Kept t' s' ∧ (code = 0 → s' = s2 ∧ br' = false) ∧ (code ≠ 0 → s' = s) ∧ (∀ k, S' k → S k ∨ (w.heap.size ≤ k ∧ k < w'.heap.size)) ∧ Chg S w w'
theorem save_kept {w : World} {S : Nat → Prop} {p g : Nat} {v : Value} {t : TS} {s : St} {br : Bool} {A : Option Addr} {n c : Nat} {R2 : Nat → Prop} {s2 : St} {B : Option Addr} {k d : Nat} (h : LedAt w S p g v t s br A n c) (hk : Kept t s) (h2 : Ty.At entryK w R2 B k d s2.log) (hR2 : ∀ j, R2 j → ¬ S j) :
    Calls Try.prog 13 #[.pointer (some ⟨p, 0, none⟩), .agg #[.int .i64 s2.view, .int .i64 s2.normal, .int .i64 s2.commit, .int .i64 s2.active, .slice B k d]] w (SaveKept S p g s s2 (saveT t s br s2).2.2.2 w) := by
  refine (Save_any h hk.ok h2 hR2).mono ?_
  rintro e w' ⟨rfl, v', A', n', c', hle, hc⟩
  obtain ⟨q1, q2, q3⟩ := hk.save br s2
  exact ⟨v', A', n', c', _, _, _, _, rfl, hle.bound, q1, q2, q3, fun k hk => by rcases hk.1 with q | q; exact .inl q; exact .inr ⟨q, hk.2⟩, hc⟩
end Go.Proofs.Ytfpjickdkkhndaa.Pa


/- The walk of the law LedgerAgain. -/

namespace Go.Proofs.Ytfpjickdkkhndaa.Pa

set_option linter.unusedVariables false

set_option linter.unusedSimpArgs false

open Go.RowKit Go.Proofs.Ytfpjickdkkhndaa.C

attribute [local go_sem] max2_int min2_int max_two min_two

theorem st_open_l {w : World} {S : Nat → Prop} {s : St} {cs : List Value} (h : stK.K w S s cs) : ∃ A n c, cs = [.int .i64 s.view, .int .i64 s.normal, .int .i64 s.commit, .int .i64 s.active, .slice A n c] ∧ Ty.At entryK w S A n c s.log := by
  obtain ⟨_, _, e1, ⟨rfl, w1⟩, _, _, rfl, ⟨rfl, w2⟩, _, _, rfl, ⟨rfl, w3⟩, _, _, rfl, ⟨rfl, w4⟩, A, n, c, rfl, h⟩ := h
  exact ⟨A, n, c, e1, h⟩
def Again (w : World) (X : Nat → Prop) (bl p g : Nat) (w5 wr : World) : Prop :=
  ∃ (sL : St) (br : Bool) (v : Value) (t : T.TS) (A : Option Addr) (n c : Nat) (S : Nat → Prop) (B : Option Addr) (k d : Nat), LedAt wr S p g v t sL br A n c ∧ Kept t sL ∧ (∀ j, S j → w.heap.size ≤ j ∧ j ≠ bl ∧ ¬ X j ∧ j < wr.heap.size) ∧ wr.heap[bl]? = some (.cells #[.int .i64 sL.view, .int .i64 sL.normal, .int .i64 sL.commit, .int .i64 sL.active, .slice B k d] 32 (0, 0)) ∧ Ty.At entryK wr X B k d sL.log ∧ Chg (fun j => w.heap.size ≤ j ∧ ¬ X j) w5 wr
def Again2 (w : World) (X : Nat → Prop) (bl g : Nat) (sL : St) (t : T.TS) (B : Option Addr) (k d : Nat) (w6 wr : World) : Prop :=
  ∃ (v : Value) (S : Nat → Prop), T.TapeAt wr S g v t ∧ (∀ j, S j → w.heap.size ≤ j ∧ j ≠ bl ∧ ¬ X j) ∧ wr.heap[bl]? = some (.cells #[.int .i64 sL.view, .int .i64 sL.normal, .int .i64 sL.commit, .int .i64 sL.active, .slice B k d] 32 (0, 0)) ∧ Ty.At entryK wr X B k d sL.log ∧ Chg (fun j => w.heap.size ≤ j ∧ ¬ X j) w6 wr
set_option maxHeartbeats 4000000 in
set_option maxRecDepth 100000 in
theorem LedgerAgain_walk (w : World) (LA : Option Addr) (N LC : Nat) (xs : List St) (h : Ty.At stK w (fun k => k < w.heap.size) LA N LC xs) (times : Int) (ht : (Lit.int .i64 times).wf = true) :
    Calls Try.prog 3 #[.slice LA N LC, .int .i64 times] w fun e w' => e = .returned (.bool true) ∧ Below w.heap.size w w' := by
  have HFIN := hid (fun (w' : World) (hc : Chg (fun _ => False) w w') => (show Below w.heap.size w w' from hc.below (Nat.le_refl _) (fun _ h => h.elim)))
  have HXS := hid h
  have HN := hid h.1
  have hNm : (N : Int) ≤ 9223372036854775807 := by have q1 := h.2.1; have q2 := h.2.2.1; simp [maxLen] at q2; omega
  clear h ht
  by_cases hbad : 12 < N ∨ times < 0 ∨ 5 < times
  · have HB := hid hbad
    go_enter Try.func3, Try.ntmps3
    go_wp2_with fail
    refine (anchor13_any w).mono ?_
    rintro e w1 ⟨rfl, h1⟩
    have C1 := hid h1
    clear h1
    by_cases q1 : (12 : Int) < (N : Int)
    · go_wp2_with fail
      go_ret
      exact ⟨rfl, HFIN.out _ C1.out⟩
    by_cases q2 : times < 0
    · go_wp2_with fail
      go_ret
      exact ⟨rfl, HFIN.out _ C1.out⟩
    have q3 : 5 < times := by omega
    go_wp2_with fail
    go_ret
    exact ⟨rfl, HFIN.out _ C1.out⟩
  have q1 : ¬ (12 : Int) < (N : Int) := by omega
  have q2 : ¬ times < 0 := by omega
  have q3 : ¬ 5 < times := by omega
  obtain ⟨tm, rfl⟩ : ∃ tm : Nat, times = (tm : Int) := ⟨times.toNat, by omega⟩
  have htm : tm ≤ 5 := by omega
  have hN12 : N ≤ 12 := by omega
  clear hbad
  go_enter Try.func3, Try.ntmps3
  go_wp2_with fail
  refine (anchor13_any w).mono ?_
  rintro e w1 ⟨rfl, h1⟩
  have C1 := hid h1
  clear h1
  go_wp2_with fail
  clear q1 q2 q3
  refine (T.new_any 1048576 w1 (by decide) (by decide)).mono ?_
  rintro e w2 ⟨rfl, ht, h2⟩
  obtain ⟨g, hg⟩ : ∃ q_, q_ = w1.heap.size := ⟨_, rfl⟩
  rw [← hg] at ht ⊢
  have HG := hid (show w.heap.size ≤ g by rw [hg]; exact C1.out.size)
  have HT2 := hid (tape_core ht)
  have Z2 := hid (show g < w2.heap.size from lt_of_blk ht.blk)
  have C2 := hid (C1.out.trans h2 (fun _ h _ => h))
  have HNO := hid (show ∀ j, (Value.slice none 0 0).ownBlock ≠ some j from fun j h => by simp [Value.ownBlock] at h)
  clear ht h2 hg
  go_wp2_with fail
  refine (open_kept HT2.out kept0).mono ?_
  rintro e w3 ⟨p, v3, A3, n3, c3, S1, rfl, hle, hs1, h3⟩
  have L1 := hid hle
  have C3 := hid (C2.out.trans (S := fun _ => False) h3 (fun j hj hl => by rcases hj with h | h; have := HG.out; omega; exact HNO.out j h))
  have X1 := hid (show ∀ j, S1 j → w.heap.size ≤ j ∧ j < w3.heap.size from fun j hj => by
    have z := HG.out
    have z2 := Z2.out
    have z3 := h3.size
    have z4 := C2.out.size
    rcases hs1 j hj with (h | h) | h
    · exact ⟨by omega, by omega⟩
    · exact absurd h (HNO.out j)
    · exact ⟨by omega, h.2⟩)
  clear hle hs1 h3
  go_wp2_with fail
  refine (State_any L1.out).mono ?_
  rintro e w4 ⟨B4, k4, d4, rfl, hat, h4⟩
  have C4 := hid (C3.out.trans h4 (fun _ h _ => h))
  have HL4 := hid hat
  replace L1 := hid (L1.out.chg h4 (fun _ _ h => h))
  have Z4 := hid (show w3.heap.size ≤ w4.heap.size from h4.size)
  obtain ⟨X, hX⟩ : ∃ X : Nat → Prop, ∀ j, X j ↔ (j < w.heap.size ∨ (w3.heap.size ≤ j ∧ j < w4.heap.size)) := ⟨_, fun _ => Iff.rfl⟩
  have HX := hid hX
  clear hX hat h4
  obtain ⟨w5, hw5⟩ : ∃ q_, q_ = w4.alloc (.cells #[.int .i64 st0.view, .int .i64 st0.normal, .int .i64 st0.commit, .int .i64 st0.active, .slice B4 k4 d4] 32) := ⟨_, rfl⟩
  have Dw5 := hid (show Chg (fun _ => False) w4 w5 by rw [hw5]; exact (Chg.refl _ w4).alloc _)
  have BL := hid (show w5.heap[w4.heap.size]? = some (.cells #[.int .i64 st0.view, .int .i64 st0.normal, .int .i64 st0.commit, .int .i64 st0.active, .slice B4 k4 d4] 32 (0, 0)) by rw [hw5]; exact blk_new w4 _)
  have hw5' := hid hw5
  clear hw5
  obtain ⟨bl, hbl⟩ : ∃ q_, q_ = w4.heap.size := ⟨_, rfl⟩
  rw [← hbl] at BL
  have C5 := hid (C4.out.trans Dw5.out (fun _ h _ => h))
  have HBL := hid hbl
  have ZB0 := hid (show w4.heap.size < w5.heap.size by rw [← hbl]; exact lt_of_blk BL.out)
  have HAG := hid (show Again w X bl p g w5 w5 from ⟨st0, false, v3, _, A3, n3, c3, S1, B4, k4, d4, L1.out.chg Dw5.out (fun _ _ h => h), kept0, fun j hj => by
    have h1 := X1.out j hj
    have h2 := Z4.out
    have h3 := ZB0.out
    refine ⟨h1.1, by omega, fun hx => ?_, by omega⟩
    rcases (HX.out j).1 hx with h | h <;> omega, BL.out, (HL4.out.chg Dw5.out (fun _ _ h => h)).mono (fun j hj => (HX.out j).2 (.inr hj)), Chg.refl _ _⟩)
  have ZB := hid (show w.heap.size ≤ bl ∧ bl < w5.heap.size from ⟨by rw [hbl]; exact C4.out.size, lt_of_blk BL.out⟩)
  have HXO := hid (show ∀ j, j < w.heap.size → X j from fun j hj => (HX.out j).2 (.inl hj))
  have HXB := hid (show ¬ X bl from fun hx => by
    have h1 := Z4.out
    have h2 := ZB.out
    rcases (HX.out bl).1 hx with h | h <;> omega)
  have HXL := hid (show ∀ j, X j → j < w5.heap.size from fun j hx => by
    have h2 := ZB.out
    have h3 := HBL.out
    rcases (HX.out j).1 hx with h | h <;> omega)
  go_wp2_with fail
  rw [← hw5'.out, ← hbl]
  clear hw5' hbl
  go_loopw [43] (fun i wr => ∃ q : Nat, q ≤ N ∧ i = .int .i64 q ∧ Again w X bl p g w5 wr) (fun i _ => N - (intOf i).toNat)
  case atStart => exact ⟨0, Nat.zero_le _, rfl, HAG.out⟩
  case round =>
    obtain ⟨q, hq, rfl, sL, br, v, t, A, n, c, S, B, k, d, hle, hkt, hS, hbl, hlast, hC⟩ := hrel
    have HLE := hid hle
    have HKT := hid hkt
    have HS := hid hS
    have BL := hid hbl
    have HLA := hid hlast
    have HC := hid hC
    have CR := hid (show Chg (fun _ => False) w wr from C5.out.trans hC (fun j hj hl => by have := hj.1; omega))
    clear hle hkt hS hbl hlast hC
    by_cases hlt : q < N
    · have hlt2 : (q : Int) < (N : Int) := by omega
      obtain ⟨s, hs⟩ : ∃ s, xs[q]? = some s := ⟨_, List.getElem?_eq_getElem (by have := HN.out; omega)⟩
      obtain ⟨a', cs, ha, haR, hK, hcs⟩ := (HXS.out.chg CR.out (fun _ _ h => h)).get (by decide) hs
      obtain ⟨E, m, f, rfl, hlog⟩ := st_open_l hK
      have HE := hid hlog
      subst ha
      have hcs2 : ∀ j u, [Value.int .i64 s.view, .int .i64 s.normal, .int .i64 s.commit, .int .i64 s.active, .slice E m f][j]? = some u → wr.cell? (a'.add (q * 5 + j)) = some u := fun j u hj => hcs j u hj
      have x0 := elem_cell0 hcs2 _ rfl
      have x1 := elem_cell hcs2 0 _ rfl
      have x2 := elem_cell hcs2 1 _ rfl
      have x3 := elem_cell hcs2 2 _ rfl
      have x4 := elem_cell hcs2 3 _ rfl
      clear hcs hcs2 hK hs haR hlog
      have ZR := hid (show bl < wr.heap.size from lt_of_blk BL.out)
      obtain ⟨w6, hw6⟩ : ∃ q_, q_ = wr.alloc (.cells #[.int .i64 s.view, .int .i64 s.normal, .int .i64 s.commit, .int .i64 s.active, .slice E m f] 32) := ⟨_, rfl⟩
      have Dw6 := hid (show Chg (fun _ => False) wr w6 by rw [hw6]; exact (Chg.refl _ wr).alloc _)
      replace BL := hid ((Dw6.out).blk BL.out (fun h => h))
      replace HE := hid (HE.out.chg (Dw6.out) (fun _ _ h => h))
      replace HLA := hid (HLA.out.chg (Dw6.out) (fun _ _ h => h))
      have BE := hid (show w6.heap[wr.heap.size]? = some (.cells #[.int .i64 s.view, .int .i64 s.normal, .int .i64 s.commit, .int .i64 s.active, .slice E m f] 32 (0, 0)) by rw [hw6]; exact blk_new wr _)
      have hw6' := hid hw6
      clear hw6
      replace HLE := hid (HLE.out.chg (Dw6.out) (fun _ _ h => h))
      have C6 := hid (show Chg (fun j => w.heap.size ≤ j ∧ ¬ X j) w5 w6 from HC.out.trans (Dw6.out.mono (S' := fun j => w.heap.size ≤ j ∧ ¬ X j) (fun _ h _ => h.elim)) (fun _ h _ => h))
      have CR6 := hid (CR.out.trans Dw6.out (fun _ h _ => h))
      go_wp2_with fail
      rw [← hw6'.out]
      clear hw6' x0 x1 x2 x3 x4
      refine (smallstate_any HE.out).mono ?_
      rintro e w7 ⟨rfl, h7⟩
      have Z67 := hid (show wr.heap.size ≤ w7.heap.size from Nat.le_trans Dw6.out.size h7.size)
      replace C6 := hid (C6.out.trans (h7.mono (S' := fun j => w.heap.size ≤ j ∧ ¬ X j) (fun _ h _ => h.elim)) (fun _ h _ => h))
      replace CR6 := hid (CR6.out.trans h7 (fun _ h _ => h))
      replace BL := hid ((h7).blk BL.out (fun h => h))
      replace BE := hid ((h7).blk BE.out (fun h => h))
      replace HE := hid (HE.out.chg (h7) (fun _ _ h => h))
      replace HLA := hid (HLA.out.chg (h7) (fun _ _ h => h))
      replace HLE := hid (HLE.out.chg (h7) (fun _ _ h => h))
      clear h7
      cases hsm : smallR s.log
      · go_wp2_with fail
        go_ret
        exact ⟨rfl, HFIN.out _ CR6.out⟩
      have hm70 : m ≤ 70 := by have h1 := HE.out.1; have h2 := smallR_len hsm; omega
      clear hsm
      have E_0 : w7.cell? ⟨wr.heap.size, 0, none⟩ = some (.int .i64 s.view) := (cellAt BE.out 0).trans rfl
      have E_1 : w7.cell? ⟨wr.heap.size, 1, none⟩ = some (.int .i64 s.normal) := (cellAt BE.out 1).trans rfl
      have E_2 : w7.cell? ⟨wr.heap.size, 2, none⟩ = some (.int .i64 s.commit) := (cellAt BE.out 2).trans rfl
      have E_3 : w7.cell? ⟨wr.heap.size, 3, none⟩ = some (.int .i64 s.active) := (cellAt BE.out 3).trans rfl
      have E_4 : w7.cell? ⟨wr.heap.size, 4, none⟩ = some (.slice E m f) := (cellAt BE.out 4).trans rfl
      by_cases h6 : (6 : Int) < (m : Int)
      · go_wp2_with fail
        go_ret
        exact ⟨rfl, HFIN.out _ CR6.out⟩
      go_wp2_with fail
      clear E_0 E_1 E_2 E_3 E_4
      refine (save_kept HLE.out HKT.out HE.out (fun j hj hs => by have h1 := (HS.out j hs).1; have h2 : j < w.heap.size := hj; omega)).mono ?_
      rintro e w8 ⟨v8, A8, n8, c8, S8, t8, s8, br8, rfl, hle, hk8, hz, hnz, hs8, h8⟩
      obtain ⟨cd, hcd⟩ : ∃ q_, q_ = (saveT t sL br s).2.2.2 := ⟨_, rfl⟩
      rw [← hcd] at hz hnz
      rw [← hcd]
      have HS8 := hid (show ∀ j, S8 j → w.heap.size ≤ j ∧ j ≠ bl ∧ ¬ X j ∧ j < w8.heap.size from fun j hj => by
        rcases hs8 j hj with h | h
        · have h1 := HS.out j h; have h2 := h8.size; have h3 := Z67.out; exact ⟨h1.1, h1.2.1, h1.2.2.1, by omega⟩
        · have z := ZR.out
          have z1 := ZB.out
          have z2 := HC.out.size
          have z3 := C6.out.size
          exact ⟨by omega, by omega, fun hx => by have := HXL.out j hx; omega, h.2⟩)
      have ZE := hid (show ¬ S wr.heap.size from fun h => by have h1 := (HS.out _ h).2.2.2; omega)
      replace HE := hid (HE.out.chg h8 (fun j hj h => by have h1 := (HS.out j h).1; have h2 : j < w.heap.size := hj; omega))
      replace HLA := hid (HLA.out.chg h8 (fun j hj h => (HS.out j h).2.2.1 hj))
      replace BL := hid (h8.blk BL.out (fun h => (HS.out _ h).2.1 rfl))
      replace BE := hid (h8.blk BE.out ZE.out)
      replace C6 := hid (C6.out.trans h8 (fun j hj _ => ⟨(HS.out j hj).1, (HS.out j hj).2.2.1⟩))
      have HLE8 := hid hle
      have HK8 := hid hk8
      have HZ := hid hz
      have HNZ := hid hnz
      clear hcd hle hk8 hz hnz hs8 h8
      by_cases hc : cd = 0
      · have hc2 : (cd == 0) = true := by simp [hc]
        obtain ⟨e1, rfl⟩ := HZ.out hc
        subst e1
        clear hc
        have E_0 : w8.cell? ⟨wr.heap.size, 0, none⟩ = some (.int .i64 s8.view) := (cellAt BE.out 0).trans rfl
        have E_1 : w8.cell? ⟨wr.heap.size, 1, none⟩ = some (.int .i64 s8.normal) := (cellAt BE.out 1).trans rfl
        have E_2 : w8.cell? ⟨wr.heap.size, 2, none⟩ = some (.int .i64 s8.commit) := (cellAt BE.out 2).trans rfl
        have E_3 : w8.cell? ⟨wr.heap.size, 3, none⟩ = some (.int .i64 s8.active) := (cellAt BE.out 3).trans rfl
        have E_4 : w8.cell? ⟨wr.heap.size, 4, none⟩ = some (.slice E m f) := (cellAt BE.out 4).trans rfl
        have L_0 : w8.cell? ⟨bl, 0, none⟩ = some (.int .i64 sL.view) := (cellAt BL.out 0).trans rfl
        have L_f0 : w8.frozen? ⟨bl, 0, none⟩ = false := freeAt BL.out 0
        have L_1 : w8.cell? ⟨bl, 1, none⟩ = some (.int .i64 sL.normal) := (cellAt BL.out 1).trans rfl
        have L_f1 : w8.frozen? ⟨bl, 1, none⟩ = false := freeAt BL.out 1
        have L_2 : w8.cell? ⟨bl, 2, none⟩ = some (.int .i64 sL.commit) := (cellAt BL.out 2).trans rfl
        have L_f2 : w8.frozen? ⟨bl, 2, none⟩ = false := freeAt BL.out 2
        have L_3 : w8.cell? ⟨bl, 3, none⟩ = some (.int .i64 sL.active) := (cellAt BL.out 3).trans rfl
        have L_f3 : w8.frozen? ⟨bl, 3, none⟩ = false := freeAt BL.out 3
        have L_4 : w8.cell? ⟨bl, 4, none⟩ = some (.slice B k d) := (cellAt BL.out 4).trans rfl
        have L_f4 : w8.frozen? ⟨bl, 4, none⟩ = false := freeAt BL.out 4
        go_wp2_with fail
        clear E_0 E_1 E_2 E_3 E_4 L_0 L_f0 L_1 L_f1 L_2 L_f2 L_3 L_f3 L_4 L_f4
        obtain ⟨PB, PC⟩ := put_blk [(.int .i64 s8.view : Value), .int .i64 s8.normal, .int .i64 s8.commit, .int .i64 s8.active, .slice E m f] w8 _ BL.out rfl
        have PBH := hid PB
        have PCH := hid PC
        have CN := hid (C6.out.trans PC (fun j e _ => by rw [e]; exact ⟨ZB.out.1, HXB.out⟩))
        have PLE := hid (HLE8.out.chg PC (fun j hj e => (HS8.out j hj).2.1 e))
        have PHE := hid ((HE.out.chg PC (fun j hj e => by have h2 : j < w.heap.size := hj; have := ZB.out; omega)).mono (fun j hj => HXO.out j hj))
        clear PB PC
        go_roundw
        case measure => simp [intOf]; omega
        case rel => first | exact ⟨q + 1, hlt, by go_num, s8, false, v8, t8, A8, n8, c8, S8, E, m, f, PLE.out, HK8.out, fun j hj => ⟨(HS8.out j hj).1, (HS8.out j hj).2.1, (HS8.out j hj).2.2.1, Nat.lt_of_lt_of_le (HS8.out j hj).2.2.2 PCH.out.size⟩, PBH.out, PHE.out, CN.out⟩ | ((repeat apply Exists.intro); exact ⟨⟨q + 1, hlt, by go_num, s8, false, v8, t8, A8, n8, c8, S8, E, m, f, PLE.out, HK8.out, fun j hj => ⟨(HS8.out j hj).1, (HS8.out j hj).2.1, (HS8.out j hj).2.2.1, Nat.lt_of_lt_of_le (HS8.out j hj).2.2.2 PCH.out.size⟩, PBH.out, PHE.out, CN.out⟩, rfl⟩)
      · have hc2 : (cd == 0) = false := by simp [hc]
        have e1 := HNZ.out hc
        subst e1
        clear hc
        go_wp2_with fail
        go_roundw
        case measure => simp [intOf]; omega
        case rel => first | exact ⟨q + 1, hlt, by go_num, s8, br8, v8, t8, A8, n8, c8, S8, B, k, d, HLE8.out, HK8.out, HS8.out, BL.out, HLA.out, C6.out⟩ | ((repeat apply Exists.intro); exact ⟨⟨q + 1, hlt, by go_num, s8, br8, v8, t8, A8, n8, c8, S8, B, k, d, HLE8.out, HK8.out, HS8.out, BL.out, HLA.out, C6.out⟩, rfl⟩)
    have hqn : ¬ (q : Int) < (N : Int) := by omega
    clear hlt
    go_wp2_with fail
    refine (T.bytes_any _ g v t wr HLE.out.tape (by have := HKT.out.room; omega)).mono ?_
    rintro e w6 ⟨c6, rfl, hrow, h6⟩
    obtain ⟨nb, hnb⟩ : ∃ q_, q_ = t.b.length := ⟨_, rfl⟩
    rw [← hnb] at hrow ⊢
    have HNB := hid hnb
    have hsb : (convert 36 9 (.slice (some ⟨wr.heap.size, 0, none⟩) nb c6)).run Try.prog w6 = .ok (.string (bstr t.b)) w6 := Fr.at_str (Fr.own_At hrow rfl)
    have CR6 := hid (CR.out.trans h6 (fun _ h _ => h))
    have ZW6 := hid (show w5.heap.size ≤ w6.heap.size from Nat.le_trans HC.out.size h6.size)
    have HT6 := hid (HLE.out.tape.chg h6 (fun _ _ h => h))
    have HTS := hid (show ∀ j, (j = g ∨ v.ownBlock = some j) → w.heap.size ≤ j ∧ j ≠ bl ∧ ¬ X j from fun j hj => by have h1 := HS.out j (HLE.out.tapeS j hj).1; exact ⟨h1.1, h1.2.1, h1.2.2.1⟩)
    replace BL := hid (h6.blk BL.out (fun h => h))
    replace HLA := hid (HLA.out.chg h6 (fun _ _ h => h))
    have HSR := hid HKT.out.right
    clear hrow h6 hnb
    go_wp2_with fail
    clear hsb
    go_loopw [66] (fun i wq => ∃ j : Nat, j ≤ tm ∧ i = .int .i64 j ∧ Again2 w X bl g sL t B k d w6 wq) (fun i _ => tm - (intOf i).toNat)
    case atStart => exact ⟨0, Nat.zero_le _, rfl, v, _, HT6.out, HTS.out, BL.out, HLA.out, Chg.refl _ _⟩
    case round =>
      obtain ⟨j, hj, rfl, v2, S2, ht2, hs2, hbl, hlast, hC⟩ := hrel
      have HT2' := hid ht2
      have HS2 := hid hs2
      replace BL := hid hbl
      replace HLA := hid hlast
      have HC2 := hid hC
      have CQ := hid (show Chg (fun _ => False) w wr from CR6.out.trans hC (fun j hj hl => by have := hj.1; omega))
      clear ht2 hs2 hbl hlast hC
      by_cases hlt : j < tm
      · have hlt2 : (j : Int) < (tm : Int) := by omega
        go_wp2_with fail
        refine (open_kept HT2'.out HKT.out).mono ?_
        rintro e w7 ⟨p7, v7, A7, n7, c7, S7, rfl, hle, hs7, h7⟩
        have HLE7 := hid hle
        have HCO := hid (show ∀ i, (i = g ∨ v2.ownBlock = some i) → w.heap.size ≤ i ∧ i ≠ bl ∧ ¬ X i from fun i hi => HS2.out i (tape_in HT2'.out i hi))
        replace BL := hid (h7.blk BL.out (fun h => (HCO.out _ h).2.1 rfl))
        replace HLA := hid (HLA.out.chg h7 (fun i hi h => (HCO.out i h).2.2 hi))
        have C7 := hid (HC2.out.trans h7 (fun i hi _ => ⟨(HCO.out i hi).1, (HCO.out i hi).2.2⟩))
        have ZQ := hid (show bl < wr.heap.size ∧ (∀ i, X i → i < wr.heap.size) from ⟨by have h1 := ZB.out; have h2 := CR6.out.size; have h3 := ZW6.out; have h4 := HC2.out.size; omega, fun i hi => by have h1 := HXL.out i hi; have h3 := ZW6.out; have h4 := HC2.out.size; omega⟩)
        have HS7 := hid (show ∀ i, (i = g ∨ v7.ownBlock = some i) → w.heap.size ≤ i ∧ i ≠ bl ∧ ¬ X i from fun i hi => by
          rcases hs7 i (HLE7.out.tapeS i hi).1 with h | h
          · exact HCO.out i h
          · have z := ZQ.out
            have z1 := CQ.out.size
            exact ⟨by omega, by omega, fun hx => by have := z.2 i hx; omega⟩)
        clear hle hs7 h7
        go_wp2_with fail
        have UL_0 : ∀ wx, Chg (fun _ => False) w7 wx → wx.cell? ⟨bl, 0, none⟩ = some (.int .i64 sL.view) := fun wx hx => (cellAt (hx.blk BL.out (fun h => h)) 0).trans rfl
        have UL_1 : ∀ wx, Chg (fun _ => False) w7 wx → wx.cell? ⟨bl, 1, none⟩ = some (.int .i64 sL.normal) := fun wx hx => (cellAt (hx.blk BL.out (fun h => h)) 1).trans rfl
        have UL_2 : ∀ wx, Chg (fun _ => False) w7 wx → wx.cell? ⟨bl, 2, none⟩ = some (.int .i64 sL.commit) := fun wx hx => (cellAt (hx.blk BL.out (fun h => h)) 2).trans rfl
        have UL_3 : ∀ wx, Chg (fun _ => False) w7 wx → wx.cell? ⟨bl, 3, none⟩ = some (.int .i64 sL.active) := fun wx hx => (cellAt (hx.blk BL.out (fun h => h)) 3).trans rfl
        have UL_4 : ∀ wx, Chg (fun _ => False) w7 wx → wx.cell? ⟨bl, 4, none⟩ = some (.slice B k d) := fun wx hx => (cellAt (hx.blk BL.out (fun h => h)) 4).trans rfl
        refine wpB_start (fun wx : World => Chg (fun _ => False) w7 wx) (by kernel_rfl) ?_
        have hHeld : (fun wx : World => Chg (fun _ => False) w7 wx) _ := (by first | assumption | exact Chg.drew (Chg.refl _ _) | (show _ ∧ _; refine ⟨?_, ?_⟩ <;> assumption) | (first | assumption | (with_reducible exact HZB.out) | (with_reducible exact HZ3.out) | (with_reducible exact HZ2.out) | (with_reducible exact HZ.out)))
        generalize hgd : w7.drew = wd at hHeld ⊢
        clear hgd
        -- 0: t73 := move t13 : 27
        refine wpB_take (i := 0) (v := ?_) (get_of_drop rfl) (by kernel_rfl) (by kernel_rfl) (by kernel_rfl) (by kernel_rfl) (fun _ _ _ h => h) (Or.inl ⟨by rfl, ?_⟩) hHeld ?_
        rotate_left
        · (intro w hSw; (try dsimp only at hSw); go_simp <;> with_reducible rfl)
        try simp only [Act.put, List.setIfInBounds_toArray, List.set_cons_zero, List.set_cons_succ]
        -- 1: t74 := binOp BinOp.neq 27 t73 #i64:0 27 : 4
        refine wpB_take (i := 1) (v := ?_) (get_of_drop rfl) (by kernel_rfl) (by kernel_rfl) (by kernel_rfl) (by kernel_rfl) (fun _ _ _ h => h) (Or.inl ⟨by rfl, ?_⟩) hHeld ?_
        rotate_left
        · (intro w hSw; (try dsimp only at hSw); go_simp <;> with_reducible rfl)
        try simp only [Act.put, List.setIfInBounds_toArray, List.set_cons_zero, List.set_cons_succ]
        -- 2: t75 := move t74 : 4
        refine wpB_take (i := 2) (v := ?_) (get_of_drop rfl) (by kernel_rfl) (by kernel_rfl) (by kernel_rfl) (by kernel_rfl) (fun _ _ _ h => h) (Or.inl ⟨by rfl, ?_⟩) hHeld ?_
        rotate_left
        · (intro w hSw; (try dsimp only at hSw); go_simp <;> with_reducible rfl)
        try simp only [Act.put, List.setIfInBounds_toArray, List.set_cons_zero, List.set_cons_succ]
        -- 3: t76 := move t12 : 26   [if ⟨2, false⟩]
        refine wpB_take (i := 3) (v := ?_) (get_of_drop rfl) (by kernel_rfl) (by kernel_rfl) (by kernel_rfl) (by kernel_rfl) (fun _ _ _ h => h) (Or.inl ⟨by rfl, ?_⟩) hHeld ?_
        rotate_left
        · (intro w hSw; (try dsimp only at hSw); go_simp <;> with_reducible rfl)
        try simp only [Act.put, List.setIfInBounds_toArray, List.set_cons_zero, List.set_cons_succ]
        -- 4: t77 := binOp BinOp.eql 26 t76 #Value.pointer(none) 26 : 4   [if ⟨2, false⟩]
        refine wpB_take (i := 4) (v := ?_) (get_of_drop rfl) (by kernel_rfl) (by kernel_rfl) (by kernel_rfl) (by kernel_rfl) (fun _ _ _ h => h) (Or.inl ⟨by rfl, ?_⟩) hHeld ?_
        rotate_left
        · (intro w hSw; (try dsimp only at hSw); go_simp <;> with_reducible rfl)
        try simp only [Act.put, List.setIfInBounds_toArray, List.set_cons_zero, List.set_cons_succ]
        -- 5: t78 := pick t75 #true t77 : 4
        refine wpB_take (i := 5) (v := ?_) (get_of_drop rfl) (by kernel_rfl) (by kernel_rfl) (by kernel_rfl) (by kernel_rfl) (fun _ _ _ h => h) (Or.inl ⟨by rfl, ?_⟩) hHeld ?_
        rotate_left
        · (intro w hSw; (try dsimp only at hSw); go_simp <;> with_reducible rfl)
        try simp only [Act.put, List.setIfInBounds_toArray, List.set_cons_zero, List.set_cons_succ]
        -- 6: t79 := move t78 : 4
        refine wpB_take (i := 6) (v := ?_) (get_of_drop rfl) (by kernel_rfl) (by kernel_rfl) (by kernel_rfl) (by kernel_rfl) (fun _ _ _ h => h) (Or.inl ⟨by rfl, ?_⟩) hHeld ?_
        rotate_left
        · (intro w hSw; (try dsimp only at hSw); go_simp <;> with_reducible rfl)
        try simp only [Act.put, List.setIfInBounds_toArray, List.set_cons_zero, List.set_cons_succ]
        -- 7: t80 := move t12 : 26   [if ⟨6, false⟩]
        refine wpB_take (i := 7) (v := ?_) (get_of_drop rfl) (by kernel_rfl) (by kernel_rfl) (by kernel_rfl) (by kernel_rfl) (fun _ _ _ h => h) (Or.inl ⟨by rfl, ?_⟩) hHeld ?_
        rotate_left
        · (intro w hSw; (try dsimp only at hSw); go_simp <;> with_reducible rfl)
        try simp only [Act.put, List.setIfInBounds_toArray, List.set_cons_zero, List.set_cons_succ]
        -- 9: t82 := load 32 t8 : 32   [if ⟨6, false⟩]
        refine wpB_take (i := 9) (v := ?_) (get_of_drop rfl) (by kernel_rfl) (by kernel_rfl) (by kernel_rfl) (by kernel_rfl) (fun _ _ _ h => h) (Or.inl ⟨by rfl, ?_⟩) hHeld ?_
        rotate_left
        · (intro w hSw; (try dsimp only at hSw); go_simp <;> with_reducible rfl)
        try simp only [Act.put, List.setIfInBounds_toArray, List.set_cons_zero, List.set_cons_succ]
        -- 8: t81 := CALL fn11(t80) : 32   [if ⟨6, false⟩]
        refine wpB_act (i := 8) (by kernel_rfl) (get_of_drop rfl) (fun K hK => ?_)
        go_simp
        refine (State_any (HLE7.out.chg hHeld (fun _ _ h => h))).mono ?_
        rintro e' wy ⟨A9, n9, c9, rfl, hat, hcy⟩
        have HS9 := hid hat
        have HZ := hid (show Chg (fun _ => False) w7 wy from hHeld.trans hcy (fun _ h _ => h))
        clear hcy hat
        refine hK.out _ _ ?_ (fun hHeld2 => ?_)
        · (first | assumption | (with_reducible exact HZB.out) | (with_reducible exact HZ3.out) | (with_reducible exact HZ2.out) | (with_reducible exact HZ.out))
        clear hHeld hK K
        have hHeld := hHeld2
        clear hHeld2
        try simp only [Act.put, List.setIfInBounds_toArray, List.set_cons_zero, List.set_cons_succ]
        -- 10: t83 := CALL fn16(t82) : 41   [if ⟨6, false⟩]
        refine wpB_act (i := 10) (by kernel_rfl) (get_of_drop rfl) (fun K hK => ?_)
        go_simp
        refine (madestate_any (HLA.out.chg HZ.out (fun _ _ h => h)) (by have h1 := HLA.out.1; have h2 := (stR_iff.1 HSR.out).1; omega) (fun e he => (fits_right (stR_iff.1 HSR.out).2 e he).1)).mono ?_
        rintro e' wm ⟨A10, c10, rfl, hat, hcy⟩
        obtain ⟨n10, hn10⟩ : ∃ q_, q_ = sL.log.length := ⟨_, rfl⟩
        rw [← hn10] at hat ⊢
        have HM := hid hat
        have HS10 := hid (HS9.out.chg hcy (fun _ _ h => h))
        have HZ2 := hid (show Chg (fun _ => False) w7 wm from HZ.out.trans hcy (fun _ h _ => h))
        clear hcy hat hn10
        refine hK.out _ _ ?_ (fun hHeld2 => ?_)
        · (first | assumption | (with_reducible exact HZB.out) | (with_reducible exact HZ3.out) | (with_reducible exact HZ2.out) | (with_reducible exact HZ.out))
        clear hHeld hK K
        have hHeld := hHeld2
        clear hHeld2
        try simp only [Act.put, List.setIfInBounds_toArray, List.set_cons_zero, List.set_cons_succ]
        -- 11: t84 := CALL fn15(t81, t83) : 4   [if ⟨6, false⟩]
        refine wpB_act (i := 11) (by kernel_rfl) (get_of_drop rfl) (fun K hK => ?_)
        go_simp
        refine (same13_any (x := sL) HS10.out HM.out (by have h1 := HS10.out.1; have h2 := (stR_iff.1 HSR.out).1; omega) (fun e he => (fits_right (stR_iff.1 HSR.out).2 e he).1)).mono ?_
        rintro e' wz ⟨rfl, hcy⟩
        rw [decide_eq_true (rfl : sL = sL)]
        have HZ3 := hid (show Chg (fun _ => False) w7 wz from HZ2.out.trans hcy (fun _ h _ => h))
        clear hcy
        refine hK.out _ _ ?_ (fun hHeld2 => ?_)
        · (first | assumption | (with_reducible exact HZB.out) | (with_reducible exact HZ3.out) | (with_reducible exact HZ2.out) | (with_reducible exact HZ.out))
        clear hHeld hK K
        have hHeld := hHeld2
        clear hHeld2
        try simp only [Act.put, List.setIfInBounds_toArray, List.set_cons_zero, List.set_cons_succ]
        -- 12: t85 := unOp UnOp.not 4 t84 : 4   [if ⟨6, false⟩]
        refine wpB_take (i := 12) (v := ?_) (get_of_drop rfl) (by kernel_rfl) (by kernel_rfl) (by kernel_rfl) (by kernel_rfl) (fun _ _ _ h => h) (Or.inl ⟨by rfl, ?_⟩) hHeld ?_
        rotate_left
        · (intro w hSw; (try dsimp only at hSw); go_simp <;> with_reducible rfl)
        try simp only [Act.put, List.setIfInBounds_toArray, List.set_cons_zero, List.set_cons_succ]
        -- 13: t86 := pick t79 #true t85 : 4
        refine wpB_take (i := 13) (v := ?_) (get_of_drop rfl) (by kernel_rfl) (by kernel_rfl) (by kernel_rfl) (by kernel_rfl) (fun _ _ _ h => h) (Or.inl ⟨by rfl, ?_⟩) hHeld ?_
        rotate_left
        · (intro w hSw; (try dsimp only at hSw); go_simp <;> with_reducible rfl)
        try simp only [Act.put, List.setIfInBounds_toArray, List.set_cons_zero, List.set_cons_succ]
        -- 14: t87 := move t86 : 4
        refine wpB_take (i := 14) (v := ?_) (get_of_drop rfl) (by kernel_rfl) (by kernel_rfl) (by kernel_rfl) (by kernel_rfl) (fun _ _ _ h => h) (Or.inl ⟨by rfl, ?_⟩) hHeld ?_
        rotate_left
        · (intro w hSw; (try dsimp only at hSw); go_simp <;> with_reducible rfl)
        try simp only [Act.put, List.setIfInBounds_toArray, List.set_cons_zero, List.set_cons_succ]
        -- 15: t88 := move t5 : 24   [if ⟨14, false⟩]
        refine wpB_take (i := 15) (v := ?_) (get_of_drop rfl) (by kernel_rfl) (by kernel_rfl) (by kernel_rfl) (by kernel_rfl) (fun _ _ _ h => h) (Or.inl ⟨by rfl, ?_⟩) hHeld ?_
        rotate_left
        · (intro w hSw; (try dsimp only at hSw); go_simp <;> with_reducible rfl)
        try simp only [Act.put, List.setIfInBounds_toArray, List.set_cons_zero, List.set_cons_succ]
        -- 18: t91 := move t11 : 9   [if ⟨14, false⟩]
        refine wpB_take (i := 18) (v := ?_) (get_of_drop rfl) (by kernel_rfl) (by kernel_rfl) (by kernel_rfl) (by kernel_rfl) (fun _ _ _ h => h) (Or.inl ⟨by rfl, ?_⟩) hHeld ?_
        rotate_left
        · (intro w hSw; (try dsimp only at hSw); go_simp <;> with_reducible rfl)
        try simp only [Act.put, List.setIfInBounds_toArray, List.set_cons_zero, List.set_cons_succ]
        -- 16: t89 := CALL fn14(t88) : 36   [if ⟨14, false⟩]
        refine wpB_act (i := 16) (by kernel_rfl) (get_of_drop rfl) (fun K hK => ?_)
        go_simp
        refine (T.bytes_any _ g v7 t wz (HLE7.out.tape.chg HZ3.out (fun _ _ h => h)) (by have := HKT.out.room; omega)).mono ?_
        rintro e' wb ⟨cb, rfl, hrow, hcy⟩
        rw [← HNB.out] at hrow ⊢
        have HRB := hid (Fr.own_At hrow rfl)
        have HZB := hid (show Chg (fun _ => False) w7 wb from HZ3.out.trans hcy (fun _ h _ => h))
        have hsb : ∀ wx, Chg (fun _ => False) wb wx → (convert 36 9 (.slice (some ⟨wz.heap.size, 0, none⟩) nb cb)).run Try.prog wx = .ok (.string (bstr t.b)) wx := fun wx hx => Fr.at_str (HRB.out.chg hx (fun _ _ h => h))
        clear hcy hrow
        refine hK.out _ _ ?_ (fun hHeld2 => ?_)
        · (first | assumption | (with_reducible exact HZB.out) | (with_reducible exact HZ3.out) | (with_reducible exact HZ2.out) | (with_reducible exact HZ.out))
        clear hHeld hK K
        have hHeld := hHeld2
        clear hHeld2
        refine wpB_firm (fun wx : World => Chg (fun _ => False) wb wx) (fun _ hx => HZB.out.trans hx (fun _ h _ => h)) ?_
        clear hHeld
        have hHeld : (fun wx : World => Chg (fun _ => False) wb wx) _ := (by exact Chg.refl _ _)
        try simp only [Act.put, List.setIfInBounds_toArray, List.set_cons_zero, List.set_cons_succ]
        -- 17: t90 := convert 36 9 t89 : 9   [if ⟨14, false⟩]
        refine wpB_take (i := 17) (v := ?_) (get_of_drop rfl) (by kernel_rfl) (by kernel_rfl) (by kernel_rfl) (by kernel_rfl) (fun _ _ _ h => h) (Or.inl ⟨by rfl, ?_⟩) hHeld ?_
        rotate_left
        · (intro w hSw; (try dsimp only at hSw); go_simp <;> with_reducible rfl)
        try simp only [Act.put, List.setIfInBounds_toArray, List.set_cons_zero, List.set_cons_succ]
        -- 19: t92 := binOp BinOp.neq 9 t90 t91 9 : 4   [if ⟨14, false⟩]
        refine wpB_take (i := 19) (v := ?_) (get_of_drop rfl) (by kernel_rfl) (by kernel_rfl) (by kernel_rfl) (by kernel_rfl) (fun _ _ _ h => h) (Or.inl ⟨by rfl, ?_⟩) hHeld ?_
        rotate_left
        · (intro w hSw; (try dsimp only at hSw); go_simp <;> with_reducible rfl)
        try simp only [Act.put, List.setIfInBounds_toArray, List.set_cons_zero, List.set_cons_succ]
        -- 20: t93 := pick t87 #true t92 : 4
        refine wpB_take (i := 20) (v := ?_) (get_of_drop rfl) (by kernel_rfl) (by kernel_rfl) (by kernel_rfl) (by kernel_rfl) (fun _ _ _ h => h) (Or.inl ⟨by rfl, ?_⟩) hHeld ?_
        rotate_left
        · (intro w hSw; (try dsimp only at hSw); go_simp <;> with_reducible rfl)
        try simp only [Act.put, List.setIfInBounds_toArray, List.set_cons_zero, List.set_cons_succ]
        refine wpB_done (by kernel_rfl) ?_ _
        clear hHeld hsb UL_0 UL_1 UL_2 UL_3 UL_4
        have QT := hid (HLE7.out.tape.chg HZB.out (fun _ _ h => h))
        replace BL := hid (HZB.out.blk BL.out (fun h => h))
        replace HLA := hid (HLA.out.chg HZB.out (fun _ _ h => h))
        have CN := hid (C7.out.trans (HZB.out.mono (S' := fun i => w.heap.size ≤ i ∧ ¬ X i) (fun _ h _ => h.elim)) (fun _ h _ => h))
        go_wp2_with fail
        go_roundw
        case measure => simp [intOf]; omega
        case rel => first | exact ⟨j + 1, hlt, by go_num, v7, _, QT.out, HS7.out, BL.out, HLA.out, CN.out⟩ | ((repeat apply Exists.intro); exact ⟨⟨j + 1, hlt, by go_num, v7, _, QT.out, HS7.out, BL.out, HLA.out, CN.out⟩, rfl⟩)
      · have hjn : ¬ (j : Int) < (tm : Int) := by omega
        clear hlt
        have HSF := hid HKT.out.safe
        have hlen : ((bstr t.b).size : Int) = (nb : Int) := by rw [bstr_size, HNB.out]
        go_wp2_with fail
        refine (T.safe_any _ g v2 t wr HT2'.out).mono ?_
        rintro e w9 ⟨rfl, rfl⟩
        rw [HSF.out, ← HNB.out]
        go_wp2_with fail
        go_ret
        exact ⟨rfl, HFIN.out _ CQ.out⟩
end Go.Proofs.Ytfpjickdkkhndaa.Pa

/- The row of the law LedgerAgain, out of its walk: for every input that can be read the law returns true, and each argument reads behind the call as it did. -/
namespace Go.Proofs.Ytfpjickdkkhndaa.ledgerAgain
open Go.ChangeShapes Go.WideShapes Go.ChangeAt Go.RowKit
open Go.ChangeMaps (open_string shut_string)
set_option linter.unusedVariables false
theorem own : ownKnob Try.prog.godebug = none := by kernel_rfl
theorem laidOut : laidOutB Try.prog = true := by kernel_rfl
set_option maxRecDepth 100000 in
theorem lifted (os : Os) (started : os.Started) (H : Type) (enc : TypeId × Value → H) :
    ReturnsInHanded {} Try.checked os 3 .any (Rows.ledgerAgainSpec.pre6 enc Try.prog Try.f3 Rows.ledgerAgainRow.domain false) (Rows.ledgerAgainSpec.post enc Try.prog Try.f3 false true false false) := by
  refine returnsInHanded_of_change_sized (C := Try.checked) own started (by kernel_rfl) Try.func3
    (ChangeSpec.witness6 (enc := enc) (C := Try.checked) false ⟨#[], #[.slice none 0 0, .int .i64 0], []⟩ 8 (by kernel_rfl) (by kernel_rfl) (by kernel_rfl) (by kernel_rfl)) ?_
  intro W base args ds gs before hval0 hW hcnd hsz0 _
  have hval : ∀ (j : Nat) t v, Try.f3.params[j]? = some t → args[j]? = some v → Value.okWide Try.prog W .any base t v := hval0
  have hW' := hW
  obtain ⟨p, q, hA0, hV, rfl, hfz, hnd⟩ := hW
  have hA : DataW.TrodAll enc Try.prog W 0 (fun _ => true) true Try.f3.params.toList args.toList ds p := hA0
  rw [Try.params3] at hA hval
  obtain ⟨v0, vs0, d0, ds0, p0, q0, hargs, rfl, rfl, h0, r0⟩ := trodAll_cons hA
  obtain ⟨v1, vs1, d1, ds1, p1, q1, rfl, rfl, rfl, h1, r1⟩ := trodAll_cons r0
  obtain ⟨rfl, rfl, rfl⟩ := trodAll_nil r1
  obtain rfl : args = #[v0, v1] := by cases args; simp_all
  obtain ⟨rfl, rfl⟩ := trodVars_none hV
  have k0 := h0
  have lt0 : ∀ x ∈ p0, x.block < W.heap.size := by obtain ⟨m, hm⟩ := k0; exact DataW.trod_lt m _ _ _ hm
  obtain ⟨a0, len0, cap0, rfl⟩ := okWide_slice Try.underlying22 (hval 0 22 v0 rfl rfl)
  obtain ⟨z0, w0⟩ : ∃ xs, C.Ty.At _ W (fun k => k < W.heap.size) a0 len0 cap0 xs := by
    obtain ⟨fuel, hf⟩ := h0
    obtain ⟨xs, A, n, c, hcs, hx⟩ := Pa.opens_sts.opens enc W _ _ fuel _ _ hf
    simp [Value.cells] at hcs
    obtain ⟨rfl, rfl, rfl⟩ := hcs
    exact ⟨xs, hx⟩
  obtain ⟨a1, rfl, rfl, rfl, w1⟩ := open_int Try.underlying3 (hval 1 3 v1 rfl rfl) h1
  clear hA0 hval0 hsz0
  refine (Pa.LedgerAgain_walk W a0 len0 cap0 z0 w0 a1 w1).mono fun e W' ⟨he, bel⟩ => ?_
  subst he
  exact ⟨_, rfl, _, _, _, [], _, [], hW', trodAll_mk1 (shut_bool (Try.underlying4) _), (trodAll_cons_mk (Below.trod laidOut (by kernel_rfl) (of_decide_eq_true (by kernel_rfl)) k0 bel lt0) (trodAll_cons_mk (shut_int Try.underlying3 w1) trodAll_mk0)), rfl, bel.frame _, fun h => by cases h⟩
theorem over : Rows.ledgerAgainRow.holds Try.pinned (OpenSpec.ofChange Rows.ledgerAgainSpec) :=
  OpenClaim.holds_of_wide 3 Try.f3 rfl rfl rfl rfl rfl rfl rfl ⟨rfl, rfl, rfl, rfl, rfl⟩ rfl rfl rfl rfl rfl (by kernel_rfl) Try.func3 (by kernel_rfl)
    (of_decide_eq_true (by kernel_rfl)) (by unfold Func.isWrapper; first | (rw [if_pos (by decide +kernel)]; kernel_rfl) | (rw [if_neg (by decide +kernel)]; exact ⟨rfl, rfl⟩))
    (fun os started H enc _ => lifted os started H enc)
end Go.Proofs.Ytfpjickdkkhndaa.ledgerAgain
namespace Go.Proofs.Ytfpjickdkkhndaa
theorem ledgerAgain_holds : Rows.LedgerAgainSaid := ledgerAgain.over
#print axioms ledgerAgain_holds
end Go.Proofs.Ytfpjickdkkhndaa
