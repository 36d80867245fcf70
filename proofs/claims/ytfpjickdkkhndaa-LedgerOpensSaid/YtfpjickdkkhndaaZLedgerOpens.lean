/- The law with its walk: LawsL, WLedgerOpens, LawLedgerOpens. -/
import Derived.Test.YtfpjickdkkhndaaMI
import Derived.Test.YtfpjickdkkhndaaMF
import Derived.Test.YtfpjickdkkhndaaRows
import Derived.WalkKit
import Derived.ProofKit
import Derived.OpenShut
import Derived.ShutString
import Derived.ChangeOld
import Derived.Below
import Derived.SizedLaws

/- Small words of the laws of ledgers: what a tape holds that only a ledger has written. -/

namespace Go.Proofs.Ytfpjickdkkhndaa.Pa

set_option linter.unusedVariables false

set_option linter.unusedSimpArgs false

open Go.RowKit Go.Proofs.Ytfpjickdkkhndaa.C

attribute [local go_sem] max2_int min2_int max_two min_two

open Go.Proofs.Ytfpjickdkkhndaa.T
theorem calm_ok {b : List UInt8} {s r : Int} (h0 : 0 ≤ s) (h1 : s ≤ b.length) (h2 : (b.length : Int) ≤ r) (h3 : r ≤ 1048576) : (calm b s r).Ok := ⟨h0, h1, h2, h3, by show (-1 : Int) ≤ -1; decide, by show (-1 : Int) ≤ 9223372036854775807; decide⟩
/-- A tape that holds just the records that lead to s, all safe. -/
def Kept (t : TS) (s : St) : Prop := ∃ Ls : List Rec, t = calm (framesB Ls) (framesB Ls).length 1048576 ∧ ((framesB Ls).length : Int) ≤ 1048576 ∧ (∀ r ∈ Ls, recR r = true) ∧ applyAll st0 Ls = some s ∧ stR s = true
theorem kept0 : Kept (calm [] 0 1048576) st0 := ⟨[], rfl, by decide, fun r h => (by cases h), rfl, stR0⟩
theorem Kept.ok {t : TS} {s : St} (h : Kept t s) : t.Ok := by
  obtain ⟨Ls, rfl, h1, _⟩ := h
  exact calm_ok (by omega) (by omega) h1 (by decide)
theorem Kept.opens {t : TS} {s : St} (h : Kept t s) : openT t = (t, 0) ∧ rd13 st0 t.b = (s, t.b.length) := by
  obtain ⟨Ls, rfl, h1, h2, h3, _⟩ := h
  have h4 := rd13_frames Ls st0 s [] (fun r hr => ⟨h2 r hr, by have := recB_most_ (h2 r hr); omega⟩) h3
  rw [List.append_nil, rd13_nil] at h4
  have h5 : rd13 st0 (calm (framesB Ls) (framesB Ls).length 1048576).b = (s, (framesB Ls).length) := h4
  refine ⟨?_, h5⟩
  unfold openT
  rw [h5, if_neg (by show ¬ (framesB Ls).length < (framesB Ls).length; omega)]
theorem Kept.right {t : TS} {s : St} (h : Kept t s) : stR s = true := by
  obtain ⟨_, _, _, _, _, h⟩ := h
  exact h
theorem Kept.safe {t : TS} {s : St} (h : Kept t s) : t.safe = t.b.length := by
  obtain ⟨Ls, rfl, _⟩ := h
  rfl
theorem Kept.room {t : TS} {s : St} (h : Kept t s) : t.b.length ≤ 1048576 := by
  obtain ⟨Ls, rfl, h1, _⟩ := h
  show (framesB Ls).length ≤ 1048576
  omega
/-- Saving keeps to that. -/
theorem Kept.save {t : TS} {s : St} (h : Kept t s) (br : Bool) (s2 : St) :
    Kept (saveT t s br s2).1 (saveT t s br s2).2.1 ∧ ((saveT t s br s2).2.2.2 = 0 → (saveT t s br s2).2.1 = s2 ∧ (saveT t s br s2).2.2.1 = false) ∧ ((saveT t s br s2).2.2.2 ≠ 0 → (saveT t s br s2).2.1 = s) := by
  have hk := h
  obtain ⟨Ls, rfl, h1, h2, h3, h4⟩ := h
  unfold saveT
  cases br
  case true => exact ⟨hk, fun h => (by cases h), fun _ => rfl⟩
  rw [if_neg (by decide)]
  by_cases hb : (betweenS s s2).2 = 0
  case neg =>
    rw [if_pos (.inl hb)]
    exact ⟨hk, fun h => absurd h hb, fun _ => rfl⟩
  obtain ⟨_, q2, q3, q4⟩ := between_ok hb
  by_cases hn : (betweenS s s2).1 = []
  case pos =>
    rw [if_pos (.inr hn)]
    rw [q3] at hn
    rw [hn] at q4
    have e : s = s2 := by injection q4
    exact ⟨hk, fun _ => ⟨e, rfl⟩, fun h => absurd hb h⟩
  rw [if_neg (by rintro (h | h); exact h hb; exact hn h), q3]
  by_cases hr : ((framesB (recordsS s s2)).length : Int) ≤ 1048576 - ((framesB Ls).length : Int)
  · rw [append_calm hr, if_neg (fun h => h rfl), sync_calm, if_neg (fun h => h rfl)]
    have e : framesB Ls ++ framesB (recordsS s s2) = framesB (Ls ++ recordsS s s2) := (framesB_append _ _).symm
    refine ⟨⟨Ls ++ recordsS s s2, by rw [← e], by rw [← e, List.length_append]; omega, fun r hr' => ?_, by rw [applyAll_append, h3]; exact q4, q2⟩, fun _ => ⟨rfl, rfl⟩, fun h => absurd rfl h⟩
    rcases List.mem_append.1 hr' with h | h
    · exact h2 r h
    · exact recordsS_right h4 q2 r h
  · rw [append_full (by omega), if_pos (by show (41 : Int) ≠ 0; decide)]
    exact ⟨hk, fun h => (by cases h), fun _ => rfl⟩
/-- The first state that is saved is taken, if it is right. -/
theorem save_first {s2 : St} (h : stR s2 = true) : (saveT (calm [] 0 1048576) st0 false s2).2.2.2 = 0 := by
  have hl := records_lead stR0 h
  have h1 := (stR_iff.1 h).1
  rw [if_pos ⟨by show (0 : Int) ≤ s2.view; omega, by show (0 : Int) ≤ s2.normal; omega, fun hc => by simp [st0] at hc, by show (0 : Int) ≤ s2.commit; omega⟩] at hl
  have hb : betweenS st0 s2 = (recordsS st0 s2, 0) := by unfold betweenS; rw [stR0, h, hl]; rfl
  have hm := framesB_most (recordsS_right stR0 h)
  have hf := recordsS_few (a := st0) h
  have hm2 : 6110 * (recordsS st0 s2).length ≤ 6110 * 70 := Nat.mul_le_mul_left _ hf
  unfold saveT
  rw [if_neg (by decide), hb]
  by_cases hn : recordsS st0 s2 = []
  · rw [if_pos (.inr hn)]
  · rw [if_neg (by rintro (h | h); exact h rfl; exact hn h), append_calm (by simp; omega), if_neg (fun h => h rfl), List.nil_append, sync_calm, if_neg (fun h => h rfl)]
theorem LedAt.bound {w : World} {S : Nat → Prop} {p g : Nat} {v : Value} {t : TS} {s : St} {br : Bool} {A : Option Addr} {n c : Nat} (h : LedAt w S p g v t s br A n c) : LedAt w (fun k => S k ∧ k < w.heap.size) p g v t s br A n c := h.mono (fun k hk hs => ⟨hs, hk⟩)
def OpenKept (g : Nat) (v : Value) (t : TS) (s : St) (w : World) (e' : Ending) (w' : World) : Prop :=
  ∃ p v' A' n' c' S', e' = .returned (.tuple #[.pointer (some ⟨p, 0, none⟩), .int .i64 0]) ∧ LedAt w' S' p g v' t s false A' n' c' ∧ (∀ k, S' k → (k = g ∨ v.ownBlock = some k) ∨ (w.heap.size ≤ k ∧ k < w'.heap.size)) ∧ Chg (fun k => k = g ∨ v.ownBlock = some k) w w'
theorem open_kept {w : World} {S : Nat → Prop} {g : Nat} {v : Value} {t : TS} {s : St} (h : TapeAt w S g v t) (hk : Kept t s) :
    Calls Try.prog 10 #[.pointer (some ⟨g, 0, none⟩)] w (OpenKept g v t s w) := by
  refine (Open_any (tape_core h) hk.ok).mono ?_
  intro e w' ho
  obtain ⟨h1, h2⟩ := hk.opens
  rcases ho with ⟨hne, _⟩ | ⟨_, v', A', n', c', rfl, hle, hc⟩
  · rw [h1] at hne; exact absurd rfl hne
  rw [h1, h2] at hle
  exact ⟨_, v', A', n', c', _, rfl, hle.bound, fun k hk => by rcases hk.1 with q | q; exact .inl q.1; exact .inr ⟨q, hk.2⟩, hc⟩
def SaveKept (S : Nat → Prop) (p g : Nat) (s s2 : St) (code : Int) (w : World) (e' : Ending) (w' : World) : Prop :=
  ∃ v' A' n' c' S' t' s' br', e' = .returned (.int .i64 code) ∧ LedAt w' S' p g v' t' s' br' A' n' c' ∧ Kept t' s' ∧ (code = 0 → s' = s2 ∧ br' = false) ∧ (code ≠ 0 → s' = s) ∧ (∀ k, S' k → S k ∨ (w.heap.size ≤ k ∧ k < w'.heap.size)) ∧ Chg S w w'
theorem save_kept {w : World} {S : Nat → Prop} {p g : Nat} {v : Value} {t : TS} {s : St} {br : Bool} {A : Option Addr} {n c : Nat} {R2 : Nat → Prop} {s2 : St} {B : Option Addr} {k d : Nat} (h : LedAt w S p g v t s br A n c) (hk : Kept t s) (h2 : Ty.At entryK w R2 B k d s2.log) (hR2 : ∀ j, R2 j → ¬ S j) :
    Calls Try.prog 13 #[.pointer (some ⟨p, 0, none⟩), .agg #[.int .i64 s2.view, .int .i64 s2.normal, .int .i64 s2.commit, .int .i64 s2.active, .slice B k d]] w (SaveKept S p g s s2 (saveT t s br s2).2.2.2 w) := by
  refine (Save_any h hk.ok h2 hR2).mono ?_
  rintro e w' ⟨rfl, v', A', n', c', hle, hc⟩
  obtain ⟨q1, q2, q3⟩ := hk.save br s2
  exact ⟨v', A', n', c', _, _, _, _, rfl, hle.bound, q1, q2, q3, fun k hk => by rcases hk.1 with q | q; exact .inl q; exact .inr ⟨q, hk.2⟩, hc⟩
end Go.Proofs.Ytfpjickdkkhndaa.Pa


/- The walk of the law LedgerOpens. -/

namespace Go.Proofs.Ytfpjickdkkhndaa.Pa

set_option linter.unusedVariables false

set_option linter.unusedSimpArgs false

open Go.RowKit Go.Proofs.Ytfpjickdkkhndaa.C

attribute [local go_sem] max2_int min2_int max_two min_two

open Go.Proofs.Ytfpjickdkkhndaa.T in

/-- The tape of the law, armed. -/
def tapeB (b : List UInt8) (arm : Int) : TS := { calm b b.length 10000 with left := mx arm (-1) }
open Go.Proofs.Ytfpjickdkkhndaa.T in
theorem openT_down {b : List UInt8} (h : (rd13 st0 b).2 < b.length) : (openT (tapeB b 0)).2 = 40 := by
  unfold openT
  rw [show (tapeB b 0).b = b from rfl, if_pos h]
  unfold TS.trim
  rw [if_neg (by simp [tapeB, calm]), if_neg (by show ¬ ((((rd13 st0 b).2 : Nat) : Int) < 0 ∨ (b.length : Int) < (((rd13 st0 b).2 : Nat) : Int)); omega), if_pos (by rfl)]
open Go.Proofs.Ytfpjickdkkhndaa.T in
theorem openT_up {b : List UInt8} {arm : Int} (h : ¬ (arm = 0 ∧ (rd13 st0 b).2 < b.length)) : (openT (tapeB b arm)).2 = 0 ∧ (openT (tapeB b arm)).1.b = b.take (rd13 st0 b).2 := by
  unfold openT
  rw [show (tapeB b arm).b = b from rfl]
  by_cases hu : (rd13 st0 b).2 < b.length
  · rw [if_pos hu]
    have ha : ((tapeB b arm).left == 0) = false := by
      show (mx arm (-1) == 0) = false
      rw [mx_eq]
      simp
      omega
    unfold TS.trim
    rw [if_neg (by simp [tapeB, calm]), if_neg (by show ¬ ((((rd13 st0 b).2 : Nat) : Int) < 0 ∨ (b.length : Int) < (((rd13 st0 b).2 : Nat) : Int)); omega), if_neg (by rw [ha]; decide)]
    exact ⟨rfl, rfl⟩
  · rw [if_neg hu]
    exact ⟨rfl, by rw [List.take_of_length_le (by omega)]; rfl⟩
set_option maxHeartbeats 4000000 in
set_option maxRecDepth 100000 in
theorem LedgerOpens_walk (w : World) (A : Option Addr) (n c : Nat) (b : List UInt8) (h : Ty.At Ty.u8 w (fun k => k < w.heap.size) A n c b) (arm : Int) (ha : (Lit.int .i64 arm).wf = true) :
    Calls Try.prog 6 #[.slice A n c, .int .i64 arm] w fun e w' => e = .returned (.bool true) ∧ Below w.heap.size w w' := by
  have HFIN := hid (fun (w' : World) (hc : Chg (fun _ => False) w w') => (show Below w.heap.size w w' from hc.below (Nat.le_refl _) (fun _ h => h.elim)))
  have HB := hid h
  have HN := hid h.1
  have HA := hid (wf64 ha)
  clear h ha
  by_cases h5 : 5000 < n
  · have h5' : (5000 : Int) < (n : Int) := by omega
    clear h5
    go_enter Try.func6, Try.ntmps6
    go_wp2_with fail
    refine (anchor13_any w).mono ?_
    rintro e w1 ⟨rfl, h1⟩
    have C1 := hid h1
    clear h1
    go_wp2_with fail
    go_ret
    exact ⟨rfl, HFIN.out _ C1.out⟩
  have h5' : ¬ (5000 : Int) < (n : Int) := by omega
  have hn5 : n ≤ 5000 := by omega
  clear h5
  go_enter Try.func6, Try.ntmps6
  go_wp2_with fail
  refine (anchor13_any w).mono ?_
  rintro e w1 ⟨rfl, h1⟩
  have C1 := hid h1
  clear h1
  go_wp2_with fail
  refine (T.new_any 10000 w1 (by decide) (by decide)).mono ?_
  rintro e w2 ⟨rfl, ht, h2⟩
  obtain ⟨g, hg⟩ : ∃ q_, q_ = w1.heap.size := ⟨_, rfl⟩
  rw [← hg] at ht ⊢
  have HG := hid (show w.heap.size ≤ g by rw [hg]; exact C1.out.size)
  have HT2 := hid (tape_core ht)
  have C2 := hid (C1.out.trans h2 (fun _ h _ => h))
  clear ht h2 hg h5'
  go_wp2_with fail
  have HE := hid (T.append_calm (b := []) (l := b) (s := 0) (r := 10000) (by have := HN.out; simp; omega))
  refine (T.append_any _ (fun k => k < w.heap.size) g _ (T.calm [] 0 10000) A n c b w2 HT2.out ⟨by decide, by decide, by decide, by decide, by decide, by decide⟩ HB.out.2.2.2.1 HN.out HB.out.2.1 (HB.out.chg C2.out (fun _ _ h => h)).bytes (fun k hk hk2 => by rcases hk2 with h | h; have := HG.out; omega; simp [Value.ownBlock] at h)).mono ?_
  rw [HE.out]
  rintro e w3 ⟨rfl, v3, ht, h3⟩
  simp only [List.nil_append] at ht
  have HT3 := hid (tape_core ht)
  have C3 := hid (C2.out.trans (S := fun _ => False) h3 (fun j hj hl => by rcases hj with h | h; have := HG.out; omega; simp [Value.ownBlock] at h))
  have HV3 := hid (show ∀ j, (j = g ∨ v3.ownBlock = some j) → w.heap.size ≤ j from fun j hj => by
    rcases tape_in ht j hj with (h | h) | h
    · have := HG.out; omega
    · simp [Value.ownBlock] at h
    · have := C2.out.size; omega)
  clear ht h3
  go_wp2_with fail
  have HOK := hid (calm_ok (b := b) (s := 0) (r := 10000) (by decide) (by omega) (by have := HN.out; omega) (by decide))
  refine (T.sync_any _ g v3 _ w3 HT3.out HOK.out).mono ?_
  rw [T.sync_calm]
  rintro e w4 ⟨rfl, ht, h4⟩
  have HT4 := hid (tape_core ht)
  have C4 := hid (C3.out.trans (S := fun _ => False) h4 (fun j hj hl => by have := HV3.out j hj; omega))
  clear ht h4
  go_wp2_with fail
  refine (refRead_any (HB.out.chg C4.out (fun _ _ h => h)) (by omega)).mono ?_
  rintro e w5 ⟨A5, n5, c5, rfl, hat, h5⟩
  obtain ⟨xS, hxS⟩ : ∃ q_, q_ = (rd13 st0 b).1 := ⟨_, rfl⟩
  obtain ⟨us, hus⟩ : ∃ q_, q_ = (rd13 st0 b).2 := ⟨_, rfl⟩
  rw [← hxS] at hat
  rw [← hxS, ← hus]
  have HXS := hid hxS
  have HUS := hid hus
  have hun : us ≤ n := by rw [hus, HN.out]; exact rd13_le _ _
  have C5 := hid (C4.out.trans h5 (fun _ h _ => h))
  have HT5 := hid (HT4.out.chg h5 (fun _ _ h => h))
  have HV5 := hid (show ∀ j, (j = g ∨ v3.ownBlock = some j) → j < w4.heap.size from fun j hj => by
    rcases hj with h | h
    · rw [h]; exact lt_of_blk HT4.out.blk
    · exact own_lt HT4.out.row j h)
  have Z45 := hid (show w4.heap.size ≤ w5.heap.size from h5.size)
  have HX := hid hat
  clear hat h5 hxS hus
  obtain ⟨w6, hw6⟩ : ∃ q_, q_ = w5.alloc (.cells #[.int .i64 xS.view, .int .i64 xS.normal, .int .i64 xS.commit, .int .i64 xS.active, .slice A5 n5 c5] 41) := ⟨_, rfl⟩
  have Dw6 := hid (show Chg (fun _ => False) w5 w6 by rw [hw6]; exact (Chg.refl _ w5).alloc _)
  replace HX := hid (HX.out.chg (Dw6.out) (fun _ _ h => h))
  have BX := hid (show w6.heap[w5.heap.size]? = some (.cells #[.int .i64 xS.view, .int .i64 xS.normal, .int .i64 xS.commit, .int .i64 xS.active, .slice A5 n5 c5] 41 (0, 0)) by rw [hw6]; exact blk_new w5 _)
  have hw6' := hid hw6
  clear hw6
  have C6 := hid (C5.out.trans Dw6.out (fun _ h _ => h))
  have HT6 := hid (HT5.out.chg Dw6.out (fun _ _ h => h))
  go_wp2_with fail
  rw [← hw6'.out]
  clear hw6'
  refine (T.arm_any _ g v3 _ arm w6 HT6.out).mono ?_
  rintro e w7 ⟨rfl, ht, h7⟩
  have HT7 := hid (show T.TapeAt w7 (fun k => k = g ∨ v3.ownBlock = some k) g v3 (tapeB b arm) from ht)
  have C7 := hid (C6.out.trans (S := fun _ => False) h7 (fun j hj hl => by have := HG.out; omega))
  have hgx : w5.heap.size ≠ g := by have h1 := HV5.out g (.inl rfl); have h2 := Z45.out; omega
  replace BX := hid (h7.blk BX.out hgx)
  replace HX := hid (HX.out.chg h7 (fun j hj e => by have h1 := HV5.out g (.inl rfl); have h2 := hj.1; omega))
  clear ht h7
  go_wp2_with fail
  have HOK7 := hid (show (tapeB b arm).Ok from T.TS.arm_ok (calm_ok (b := b) (s := b.length) (r := 10000) (by omega) (by omega) (by have := HN.out; omega) (by decide)) arm HA.out.2)
  refine (Open_any HT7.out HOK7.out).mono ?_
  intro e w8 ho
  by_cases hcase : arm = 0 ∧ us < n
  · obtain ⟨ha0, hul⟩ := hcase
    subst ha0
    have hd := openT_down (b := b) (by rw [← HUS.out, ← HN.out]; exact hul)
    rcases ho with ⟨_, rfl, _, _, h8⟩ | ⟨h0, _⟩
    · have C8 := hid (C7.out.trans (S := fun _ => False) h8 (fun j hj hl => by have := HV3.out j hj; omega))
      rw [hd]
      have hul2 : (us : Int) < (n : Int) := by omega
      clear hd h8
      go_wp2_with fail
      go_ret
      exact ⟨rfl, HFIN.out _ C8.out⟩
    · rw [hd] at h0; cases h0
  have hu := openT_up (b := b) (arm := arm) (by rw [← HUS.out, ← HN.out]; exact hcase)
  rcases ho with ⟨h0, _⟩ | ⟨_, v8, A8, n8, c8, rfl, hle, h8⟩
  · exact absurd hu.1 h0
  obtain ⟨t8, ht8⟩ : ∃ q_, q_ = (openT (tapeB b arm)).1 := ⟨_, rfl⟩
  rw [← ht8] at hu hle
  have htb : t8.b = b.take us := by rw [HUS.out]; exact hu.2
  have HLE := hid hle
  have HTB := hid htb
  have C8 := hid (C7.out.trans (S := fun _ => False) h8 (fun j hj hl => by have := HV3.out j hj; omega))
  replace BX := hid (h8.blk BX.out (fun hj => by have h1 := HV5.out _ hj; have h2 := Z45.out; omega))
  replace HX := hid (HX.out.chg h8 (fun j hj hk => by have h1 := HV5.out j hk; have h2 := hj.1; omega))
  obtain ⟨p, hp⟩ : ∃ q_, q_ = w7.heap.size := ⟨_, rfl⟩
  rw [← hp] at HLE ⊢
  have HP := hid hp
  clear hu hle htb ht8 h8 hp
  have HCASE := hid hcase
  clear hcase
  go_upto_region 11 with fail
  go_cut [49] (fun s49 wx => s49 = .bool false ∧ w8 = wx)
  case first =>
    by_cases e : arm = 0
    · have e1 : (arm == 0) = true := by simp [e]
      have e2 : ¬ (us : Int) < (n : Int) := fun h => HCASE.out ⟨e, by omega⟩
      clear e
      go_wp2_with fail
      go_meet
      exact ⟨rfl, rfl⟩
    · have e1 : (arm == 0) = false := by simp [e]
      clear e
      go_wp2_with fail
      go_meet
      exact ⟨rfl, rfl⟩
  case rest =>
  obtain ⟨rfl, rfl⟩ := hcut
  have HXR := hid (show stR xS = true by rw [HXS.out]; exact rd13_right _ _ stR0)
  have HXF := hid (show xS.log.length ≤ 1000000 ∧ Fits xS.log from ⟨by have := (stR_iff.1 HXR.out).1; omega, fits_right (stR_iff.1 HXR.out).2⟩)
  have hxe : (rd13 st0 (tapeB b arm).b).1 = xS := HXS.out.symm
  rw [hxe] at HLE
  clear hxe
  go_wp2_with fail
  have UX_0 : ∀ wx, Chg (fun _ => False) w8 wx → wx.cell? ⟨w5.heap.size, 0, none⟩ = some (.int .i64 xS.view) := fun wx hx => (cellAt (hx.blk BX.out (fun h => h)) 0).trans rfl
  have UX_1 : ∀ wx, Chg (fun _ => False) w8 wx → wx.cell? ⟨w5.heap.size, 1, none⟩ = some (.int .i64 xS.normal) := fun wx hx => (cellAt (hx.blk BX.out (fun h => h)) 1).trans rfl
  have UX_2 : ∀ wx, Chg (fun _ => False) w8 wx → wx.cell? ⟨w5.heap.size, 2, none⟩ = some (.int .i64 xS.commit) := fun wx hx => (cellAt (hx.blk BX.out (fun h => h)) 2).trans rfl
  have UX_3 : ∀ wx, Chg (fun _ => False) w8 wx → wx.cell? ⟨w5.heap.size, 3, none⟩ = some (.int .i64 xS.active) := fun wx hx => (cellAt (hx.blk BX.out (fun h => h)) 3).trans rfl
  have UX_4 : ∀ wx, Chg (fun _ => False) w8 wx → wx.cell? ⟨w5.heap.size, 4, none⟩ = some (.slice A5 n5 c5) := fun wx hx => (cellAt (hx.blk BX.out (fun h => h)) 4).trans rfl
  obtain ⟨ie, hie, _⟩ := info_parts Fr.info5
  have hcut5 := cut_to (P := Try.prog) 36 5 .i64 Try.underlying36 hie A n c us (by have := HB.out.2.1; omega)
  have HB8 := hid (HB.out.chg C8.out (fun _ _ h => h))
  have HBT := hid (HB8.out.to_ hun)
  have hsr : ∀ wx, Chg (fun _ => False) w8 wx → (convert 36 9 (.slice A us c)).run Try.prog wx = .ok (.string (bstr (b.take us))) wx := fun wx hx => Fr.at_str (HBT.out.chg hx (fun _ _ h => h))
  clear hie
  refine wpB_start (fun wx : World => Chg (fun _ => False) w8 wx) (by kernel_rfl) ?_
  have hHeld : (fun wx : World => Chg (fun _ => False) w8 wx) _ := (by first | assumption | exact Chg.drew (Chg.refl _ _) | (show _ ∧ _; refine ⟨?_, ?_⟩ <;> assumption) | (first | assumption | (with_reducible exact HZB.out) | (with_reducible exact HZ2.out) | (with_reducible exact HZ.out)))
  generalize hgd : w8.drew = wd at hHeld ⊢
  clear hgd
  -- 0: t56 := move t9 : 27
  refine wpB_take (i := 0) (v := ?_) (get_of_drop rfl) (by kernel_rfl) (by kernel_rfl) (by kernel_rfl) (by kernel_rfl) (fun _ _ _ h => h) (Or.inl ⟨by rfl, ?_⟩) hHeld ?_
  rotate_left
  · (intro w hSw; (try dsimp only at hSw); go_simp <;> with_reducible rfl)
  try simp only [Act.put, List.setIfInBounds_toArray, List.set_cons_zero, List.set_cons_succ]
  -- 1: t57 := binOp BinOp.eql 27 t56 #i64:0 27 : 4
  refine wpB_take (i := 1) (v := ?_) (get_of_drop rfl) (by kernel_rfl) (by kernel_rfl) (by kernel_rfl) (by kernel_rfl) (fun _ _ _ h => h) (Or.inl ⟨by rfl, ?_⟩) hHeld ?_
  rotate_left
  · (intro w hSw; (try dsimp only at hSw); go_simp <;> with_reducible rfl)
  try simp only [Act.put, List.setIfInBounds_toArray, List.set_cons_zero, List.set_cons_succ]
  -- 2: t58 := move t57 : 4
  refine wpB_take (i := 2) (v := ?_) (get_of_drop rfl) (by kernel_rfl) (by kernel_rfl) (by kernel_rfl) (by kernel_rfl) (fun _ _ _ h => h) (Or.inl ⟨by rfl, ?_⟩) hHeld ?_
  rotate_left
  · (intro w hSw; (try dsimp only at hSw); go_simp <;> with_reducible rfl)
  try simp only [Act.put, List.setIfInBounds_toArray, List.set_cons_zero, List.set_cons_succ]
  -- 3: t59 := move t8 : 26   [if ⟨2, true⟩]
  refine wpB_take (i := 3) (v := ?_) (get_of_drop rfl) (by kernel_rfl) (by kernel_rfl) (by kernel_rfl) (by kernel_rfl) (fun _ _ _ h => h) (Or.inl ⟨by rfl, ?_⟩) hHeld ?_
  rotate_left
  · (intro w hSw; (try dsimp only at hSw); go_simp <;> with_reducible rfl)
  try simp only [Act.put, List.setIfInBounds_toArray, List.set_cons_zero, List.set_cons_succ]
  -- 4: t60 := binOp BinOp.neq 26 t59 #Value.pointer(none) 26 : 4   [if ⟨2, true⟩]
  refine wpB_take (i := 4) (v := ?_) (get_of_drop rfl) (by kernel_rfl) (by kernel_rfl) (by kernel_rfl) (by kernel_rfl) (fun _ _ _ h => h) (Or.inl ⟨by rfl, ?_⟩) hHeld ?_
  rotate_left
  · (intro w hSw; (try dsimp only at hSw); go_simp <;> with_reducible rfl)
  try simp only [Act.put, List.setIfInBounds_toArray, List.set_cons_zero, List.set_cons_succ]
  -- 5: t61 := pick t58 t60 #false : 4
  refine wpB_take (i := 5) (v := ?_) (get_of_drop rfl) (by kernel_rfl) (by kernel_rfl) (by kernel_rfl) (by kernel_rfl) (fun _ _ _ h => h) (Or.inl ⟨by rfl, ?_⟩) hHeld ?_
  rotate_left
  · (intro w hSw; (try dsimp only at hSw); go_simp <;> with_reducible rfl)
  try simp only [Act.put, List.setIfInBounds_toArray, List.set_cons_zero, List.set_cons_succ]
  -- 6: t62 := move t61 : 4
  refine wpB_take (i := 6) (v := ?_) (get_of_drop rfl) (by kernel_rfl) (by kernel_rfl) (by kernel_rfl) (by kernel_rfl) (fun _ _ _ h => h) (Or.inl ⟨by rfl, ?_⟩) hHeld ?_
  rotate_left
  · (intro w hSw; (try dsimp only at hSw); go_simp <;> with_reducible rfl)
  try simp only [Act.put, List.setIfInBounds_toArray, List.set_cons_zero, List.set_cons_succ]
  -- 7: t63 := move t8 : 26   [if ⟨6, true⟩]
  refine wpB_take (i := 7) (v := ?_) (get_of_drop rfl) (by kernel_rfl) (by kernel_rfl) (by kernel_rfl) (by kernel_rfl) (fun _ _ _ h => h) (Or.inl ⟨by rfl, ?_⟩) hHeld ?_
  rotate_left
  · (intro w hSw; (try dsimp only at hSw); go_simp <;> with_reducible rfl)
  try simp only [Act.put, List.setIfInBounds_toArray, List.set_cons_zero, List.set_cons_succ]
  -- 9: t65 := load 41 t6 : 41   [if ⟨6, true⟩]
  refine wpB_take (i := 9) (v := ?_) (get_of_drop rfl) (by kernel_rfl) (by kernel_rfl) (by kernel_rfl) (by kernel_rfl) (fun _ _ _ h => h) (Or.inl ⟨by rfl, ?_⟩) hHeld ?_
  rotate_left
  · (intro w hSw; (try dsimp only at hSw); go_simp <;> with_reducible rfl)
  try simp only [Act.put, List.setIfInBounds_toArray, List.set_cons_zero, List.set_cons_succ]
  -- 8: t64 := CALL fn11(t63) : 32   [if ⟨6, true⟩]
  refine wpB_act (i := 8) (by kernel_rfl) (get_of_drop rfl) (fun K hK => ?_)
  go_simp
  refine (State_any (HLE.out.chg hHeld (fun _ _ h => h))).mono ?_
  rintro e' wy ⟨A9, n9, c9, rfl, hat, hcy⟩
  have HS9 := hid hat
  have HZ := hid (show Chg (fun _ => False) w8 wy from hHeld.trans hcy (fun _ h _ => h))
  clear hcy hat
  refine hK.out _ _ ?_ (fun hHeld2 => ?_)
  · (first | assumption | (with_reducible exact HZB.out) | (with_reducible exact HZ2.out) | (with_reducible exact HZ.out))
  clear hHeld hK K
  have hHeld := hHeld2
  clear hHeld2
  try simp only [Act.put, List.setIfInBounds_toArray, List.set_cons_zero, List.set_cons_succ]
  -- 10: t66 := CALL fn15(t64, t65) : 4   [if ⟨6, true⟩]
  refine wpB_act (i := 10) (by kernel_rfl) (get_of_drop rfl) (fun K hK => ?_)
  go_simp
  refine (same13_any (x := xS) (HS9.out.chg (Chg.refl (fun _ => False) wy) (fun _ _ h => h)) (HX.out.chg HZ.out (fun _ _ h => h)) (by have h1 := HS9.out.1; have h2 := HXF.out.1; omega) (fun e he => (HXF.out.2 e he).1)).mono ?_
  rintro e' wz ⟨rfl, hcy⟩
  rw [decide_eq_true (rfl : xS = xS)]
  have HZ2 := hid (show Chg (fun _ => False) w8 wz from HZ.out.trans hcy (fun _ h _ => h))
  clear hcy
  refine hK.out _ _ ?_ (fun hHeld2 => ?_)
  · (first | assumption | (with_reducible exact HZB.out) | (with_reducible exact HZ2.out) | (with_reducible exact HZ.out))
  clear hHeld hK K
  have hHeld := hHeld2
  clear hHeld2
  try simp only [Act.put, List.setIfInBounds_toArray, List.set_cons_zero, List.set_cons_succ]
  -- 11: t67 := pick t62 t66 #false : 4
  refine wpB_take (i := 11) (v := ?_) (get_of_drop rfl) (by kernel_rfl) (by kernel_rfl) (by kernel_rfl) (by kernel_rfl) (fun _ _ _ h => h) (Or.inl ⟨by rfl, ?_⟩) hHeld ?_
  rotate_left
  · (intro w hSw; (try dsimp only at hSw); go_simp <;> with_reducible rfl)
  try simp only [Act.put, List.setIfInBounds_toArray, List.set_cons_zero, List.set_cons_succ]
  -- 12: t68 := move t67 : 4
  refine wpB_take (i := 12) (v := ?_) (get_of_drop rfl) (by kernel_rfl) (by kernel_rfl) (by kernel_rfl) (by kernel_rfl) (fun _ _ _ h => h) (Or.inl ⟨by rfl, ?_⟩) hHeld ?_
  rotate_left
  · (intro w hSw; (try dsimp only at hSw); go_simp <;> with_reducible rfl)
  try simp only [Act.put, List.setIfInBounds_toArray, List.set_cons_zero, List.set_cons_succ]
  -- 13: t69 := move t5 : 24   [if ⟨12, true⟩]
  refine wpB_take (i := 13) (v := ?_) (get_of_drop rfl) (by kernel_rfl) (by kernel_rfl) (by kernel_rfl) (by kernel_rfl) (fun _ _ _ h => h) (Or.inl ⟨by rfl, ?_⟩) hHeld ?_
  rotate_left
  · (intro w hSw; (try dsimp only at hSw); go_simp <;> with_reducible rfl)
  try simp only [Act.put, List.setIfInBounds_toArray, List.set_cons_zero, List.set_cons_succ]
  -- 16: t72 := move t0 : 36   [if ⟨12, true⟩]
  refine wpB_take (i := 16) (v := ?_) (get_of_drop rfl) (by kernel_rfl) (by kernel_rfl) (by kernel_rfl) (by kernel_rfl) (fun _ _ _ h => h) (Or.inl ⟨by rfl, ?_⟩) hHeld ?_
  rotate_left
  · (intro w hSw; (try dsimp only at hSw); go_simp <;> with_reducible rfl)
  try simp only [Act.put, List.setIfInBounds_toArray, List.set_cons_zero, List.set_cons_succ]
  -- 17: t73 := move t7 : 3   [if ⟨12, true⟩]
  refine wpB_take (i := 17) (v := ?_) (get_of_drop rfl) (by kernel_rfl) (by kernel_rfl) (by kernel_rfl) (by kernel_rfl) (fun _ _ _ h => h) (Or.inl ⟨by rfl, ?_⟩) hHeld ?_
  rotate_left
  · (intro w hSw; (try dsimp only at hSw); go_simp <;> with_reducible rfl)
  try simp only [Act.put, List.setIfInBounds_toArray, List.set_cons_zero, List.set_cons_succ]
  -- 18: t74 := slice 36 t72 none some t73 none : 36   [if ⟨12, true⟩]
  refine wpB_take (i := 18) (v := ?_) (get_of_drop rfl) (by kernel_rfl) (by kernel_rfl) (by kernel_rfl) (by kernel_rfl) (fun _ _ _ h => h) (Or.inl ⟨by rfl, ?_⟩) hHeld ?_
  rotate_left
  · (intro w hSw; (try dsimp only at hSw); go_simp <;> with_reducible rfl)
  try simp only [Act.put, List.setIfInBounds_toArray, List.set_cons_zero, List.set_cons_succ]
  -- 19: t75 := convert 36 9 t74 : 9   [if ⟨12, true⟩]
  refine wpB_take (i := 19) (v := ?_) (get_of_drop rfl) (by kernel_rfl) (by kernel_rfl) (by kernel_rfl) (by kernel_rfl) (fun _ _ _ h => h) (Or.inl ⟨by rfl, ?_⟩) hHeld ?_
  rotate_left
  · (intro w hSw; (try dsimp only at hSw); go_simp <;> with_reducible rfl)
  try simp only [Act.put, List.setIfInBounds_toArray, List.set_cons_zero, List.set_cons_succ]
  -- 14: t70 := CALL fn14(t69) : 36   [if ⟨12, true⟩]
  refine wpB_act (i := 14) (by kernel_rfl) (get_of_drop rfl) (fun K hK => ?_)
  go_simp
  refine (T.bytes_any _ g v8 t8 wz (HLE.out.tape.chg HZ2.out (fun _ _ h => h)) (by rw [HTB.out, List.length_take]; omega)).mono ?_
  rintro e' wb ⟨cb, rfl, hrow, hcy⟩
  obtain ⟨nb, hnb⟩ : ∃ q_, q_ = t8.b.length := ⟨_, rfl⟩
  rw [← hnb] at hrow ⊢
  have HRB := hid (Fr.own_At hrow rfl)
  have HZB := hid (show Chg (fun _ => False) w8 wb from HZ2.out.trans hcy (fun _ h _ => h))
  have hsb : ∀ wx, Chg (fun _ => False) wb wx → (convert 36 9 (.slice (some ⟨wz.heap.size, 0, none⟩) nb cb)).run Try.prog wx = .ok (.string (bstr (b.take us))) wx := fun wx hx => by rw [← HTB.out]; exact Fr.at_str (HRB.out.chg hx (fun _ _ h => h))
  have hsr2 : ∀ wx, Chg (fun _ => False) wb wx → (convert 36 9 (.slice A us c)).run Try.prog wx = .ok (.string (bstr (b.take us))) wx := fun wx hx => hsr wx (HZB.out.trans hx (fun _ h _ => h))
  clear hcy hrow hnb
  refine hK.out _ _ ?_ (fun hHeld2 => ?_)
  · (first | assumption | (with_reducible exact HZB.out) | (with_reducible exact HZ2.out) | (with_reducible exact HZ.out))
  clear hHeld hK K
  have hHeld := hHeld2
  clear hHeld2
  refine wpB_firm (fun wx : World => Chg (fun _ => False) wb wx) (fun _ hx => HZB.out.trans hx (fun _ h _ => h)) ?_
  clear hHeld
  have hHeld : (fun wx : World => Chg (fun _ => False) wb wx) _ := (by exact Chg.refl _ _)
  try simp only [Act.put, List.setIfInBounds_toArray, List.set_cons_zero, List.set_cons_succ]
  -- 15: t71 := convert 36 9 t70 : 9   [if ⟨12, true⟩]
  refine wpB_take (i := 15) (v := ?_) (get_of_drop rfl) (by kernel_rfl) (by kernel_rfl) (by kernel_rfl) (by kernel_rfl) (fun _ _ _ h => h) (Or.inl ⟨by rfl, ?_⟩) hHeld ?_
  rotate_left
  · (intro w hSw; (try dsimp only at hSw); go_simp <;> with_reducible rfl)
  try simp only [Act.put, List.setIfInBounds_toArray, List.set_cons_zero, List.set_cons_succ]
  -- 20: t76 := binOp BinOp.eql 9 t71 t75 9 : 4   [if ⟨12, true⟩]
  refine wpB_take (i := 20) (v := ?_) (get_of_drop rfl) (by kernel_rfl) (by kernel_rfl) (by kernel_rfl) (by kernel_rfl) (fun _ _ _ h => h) (Or.inl ⟨by rfl, ?_⟩) hHeld ?_
  rotate_left
  · (intro w hSw; (try dsimp only at hSw); go_simp <;> with_reducible rfl)
  try simp only [Act.put, List.setIfInBounds_toArray, List.set_cons_zero, List.set_cons_succ]
  -- 21: t77 := pick t68 t76 #false : 4
  refine wpB_take (i := 21) (v := ?_) (get_of_drop rfl) (by kernel_rfl) (by kernel_rfl) (by kernel_rfl) (by kernel_rfl) (fun _ _ _ h => h) (Or.inl ⟨by rfl, ?_⟩) hHeld ?_
  rotate_left
  · (intro w hSw; (try dsimp only at hSw); go_simp <;> with_reducible rfl)
  try simp only [Act.put, List.setIfInBounds_toArray, List.set_cons_zero, List.set_cons_succ]
  -- 22: t4 := assign t77 : 4
  refine wpB_take (i := 22) (v := ?_) (get_of_drop rfl) (by kernel_rfl) (by kernel_rfl) (by kernel_rfl) (by kernel_rfl) (fun _ _ _ h => h) (Or.inl ⟨by rfl, ?_⟩) hHeld ?_
  rotate_left
  · (intro w hSw; (try dsimp only at hSw); go_simp <;> with_reducible rfl)
  try simp only [Act.put, List.setIfInBounds_toArray, List.set_cons_zero, List.set_cons_succ]
  refine wpB_done (by kernel_rfl) ?_ _
  clear hHeld hsr hsb hsr2 UX_0 UX_1 UX_2 UX_3 UX_4 hcut5
  go_wp2_with fail
  go_ret
  exact ⟨rfl, HFIN.out _ (C8.out.trans HZB.out (fun _ h _ => h))⟩
end Go.Proofs.Ytfpjickdkkhndaa.Pa

/- The row of the law LedgerOpens, out of its walk: for every input that can be read the law returns true, and each argument reads behind the call as it did. -/
namespace Go.Proofs.Ytfpjickdkkhndaa.ledgerOpens
open Go.ChangeShapes Go.WideShapes Go.ChangeAt Go.RowKit
open Go.ChangeMaps (open_string shut_string)
set_option linter.unusedVariables false
theorem own : ownKnob Try.prog.godebug = none := by kernel_rfl
theorem laidOut : laidOutB Try.prog = true := by kernel_rfl
set_option maxRecDepth 100000 in
theorem lifted (os : Os) (started : os.Started) (H : Type) (enc : TypeId × Value → H) :
    ReturnsInHanded {} Try.checked os 6 .any (Rows.ledgerOpensSpec.pre6 enc Try.prog Try.f6 Rows.ledgerOpensRow.domain false) (Rows.ledgerOpensSpec.post enc Try.prog Try.f6 false true false false) := by
  refine returnsInHanded_of_change_sized (C := Try.checked) own started (by kernel_rfl) Try.func6
    (ChangeSpec.witness6 (enc := enc) (C := Try.checked) false ⟨#[], #[.slice none 0 0, .int .i64 0], []⟩ 8 (by kernel_rfl) (by kernel_rfl) (by kernel_rfl) (by kernel_rfl)) ?_
  intro W base args ds gs before hval0 hW hcnd hsz0 _
  have hval : ∀ (j : Nat) t v, Try.f6.params[j]? = some t → args[j]? = some v → Value.okWide Try.prog W .any base t v := hval0
  have hW' := hW
  obtain ⟨p, q, hA0, hV, rfl, hfz, hnd⟩ := hW
  have hA : DataW.TrodAll enc Try.prog W 0 (fun _ => true) true Try.f6.params.toList args.toList ds p := hA0
  rw [Try.params6] at hA hval
  obtain ⟨v0, vs0, d0, ds0, p0, q0, hargs, rfl, rfl, h0, r0⟩ := trodAll_cons hA
  obtain ⟨v1, vs1, d1, ds1, p1, q1, rfl, rfl, rfl, h1, r1⟩ := trodAll_cons r0
  obtain ⟨rfl, rfl, rfl⟩ := trodAll_nil r1
  obtain rfl : args = #[v0, v1] := by cases args; simp_all
  obtain ⟨rfl, rfl⟩ := trodVars_none hV
  have k0 := h0
  have lt0 : ∀ x ∈ p0, x.block < W.heap.size := by obtain ⟨m, hm⟩ := k0; exact DataW.trod_lt m _ _ _ hm
  obtain ⟨a0, len0, cap0, rfl⟩ := okWide_slice Try.underlying36 (hval 0 36 v0 rfl rfl)
  obtain ⟨z0, w0⟩ : ∃ xs, C.Ty.At _ W (fun k => k < W.heap.size) a0 len0 cap0 xs := by
    obtain ⟨fuel, hf⟩ := h0
    obtain ⟨xs, A, n, c, hcs, hx⟩ := Pa.opensB_.opens enc W _ _ fuel _ _ hf
    simp [Value.cells] at hcs
    obtain ⟨rfl, rfl, rfl⟩ := hcs
    exact ⟨xs, hx⟩
  obtain ⟨a1, rfl, rfl, rfl, w1⟩ := open_int Try.underlying3 (hval 1 3 v1 rfl rfl) h1
  clear hA0 hval0 hsz0
  refine (Pa.LedgerOpens_walk W a0 len0 cap0 z0 w0 a1 w1).mono fun e W' ⟨he, bel⟩ => ?_
  subst he
  exact ⟨_, rfl, _, _, _, [], _, [], hW', trodAll_mk1 (shut_bool (Try.underlying4) _), (trodAll_cons_mk (Below.trod laidOut (by kernel_rfl) (of_decide_eq_true (by kernel_rfl)) k0 bel lt0) (trodAll_cons_mk (shut_int Try.underlying3 w1) trodAll_mk0)), rfl, bel.frame _, fun h => by cases h⟩
theorem over : Rows.ledgerOpensRow.holds Try.pinned (OpenSpec.ofChange Rows.ledgerOpensSpec) :=
  OpenClaim.holds_of_wide 6 Try.f6 rfl rfl rfl rfl rfl rfl rfl ⟨rfl, rfl, rfl, rfl, rfl⟩ rfl rfl rfl rfl rfl (by kernel_rfl) Try.func6 (by kernel_rfl)
    (of_decide_eq_true (by kernel_rfl)) (by unfold Func.isWrapper; first | (rw [if_pos (by decide +kernel)]; kernel_rfl) | (rw [if_neg (by decide +kernel)]; exact ⟨rfl, rfl⟩))
    (fun os started H enc _ => lifted os started H enc)
end Go.Proofs.Ytfpjickdkkhndaa.ledgerOpens
namespace Go.Proofs.Ytfpjickdkkhndaa
theorem ledgerOpens_holds : Rows.LedgerOpensSaid := ledgerOpens.over
#print axioms ledgerOpens_holds
end Go.Proofs.Ytfpjickdkkhndaa
