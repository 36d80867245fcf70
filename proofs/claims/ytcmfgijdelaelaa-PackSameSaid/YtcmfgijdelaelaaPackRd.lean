
/- The contracts of slices.ContainsFunc at entries, and of Right at messages and records, the program's and the document's. -/

import Derived.Test.YtcmfgijdelaelaaPackRc

import Derived.Shelf.Abstract

namespace Go.Proofs.Ytcmfgijdelaelaa.Pa

set_option linter.unusedVariables false

set_option linter.unusedSimpArgs false

open Go.RowKit Go.Proofs.Ytcmfgijdelaelaa.C

attribute [local go_sem] max2_int min2_int max_two min_two

theorem entq_clo {R : Nat → Prop} {r : Entry} {E1 : Option Addr} {m1 d1 : Nat} {E2 : Option Addr} {m2 d2 : Nat} (w : World) (he : EntryAt w R r E1 m1 d1 E2 m2 d2) : Calls Try.prog 59 #[.agg (entryCells r E1 m1 d1 E2 m2 d2).toArray] w fun e w' => e = .returned (.bool (!(entryR r))) ∧ Chg (fun _ => False) w w' := by
  show Calls Try.prog _ #[.agg #[.int .i64 r.view, .int .i64 r.client, .int .i64 r.request, .int .i64 r.dflt, .int .i64 r.closed, .int .i64 r.fuel, .int .i64 r.stack, .slice E1 m1 d1, .slice E2 m2 d2]] w _
  have HE := hid he
  clear he
  go_enter Try.func59, Try.ntmps59
  go_wp2_with fail
  refine (entryright_any (e := r) (HE.out.chg ((Chg.refl (fun _ => False) w).alloc _) (fun _ _ h => h))).mono ?_
  rintro e w1 ⟨rfl, h1⟩
  have H1 := hid (((Chg.refl (fun _ => False) w).alloc _).trans h1 (fun _ h _ => h))
  clear h1
  go_wp2_with fail
  go_ret
  exact ⟨rfl, H1.out⟩
/-- slices.IndexFunc: is there one that isn't right? -/
def EntqIdx (xs : List (Entry)) (w : World) (e : Ending) (w' : World) : Prop := (∃ i : Int, e = .returned (.int .i64 i) ∧ decide (0 ≤ i) = !(xs.all (fun r => entryR r))) ∧ Chg (fun _ => False) w w'
theorem entq_allk {xs : List (Entry)} {k : Nat} {r : Entry} (h : xs[k]? = some r) : (xs.take (k + 1)).all (fun r => entryR r) = ((xs.take k).all (fun r => entryR r) && entryR r) := by
  rw [List.take_add_one, h, Option.toList_some, List.all_append]
  simp
theorem entq_alln {xs : List (Entry)} {k : Nat} (h : (xs.take k).all (fun r => entryR r) = false) : xs.all (fun r => entryR r) = false := by
  rw [← List.take_append_drop k xs, List.all_append, h]
  rfl
set_option maxHeartbeats 4000000 in
set_option maxRecDepth 100000 in
theorem entq_idx {R : Nat → Prop} {A : Option Addr} {n c : Nat} {xs : List (Entry)} {w : World} (hl : Ty.At entryK w R A n c xs) :
    Calls Try.prog 72 #[.slice A n c, .func (.func 59) #[] #[]] w (EntqIdx xs w) := by
  have HL := hid hl
  have hn2 : (n : Int) ≤ 9223372036854775807 := by have q1 := hl.2.1; have q2 := hl.2.2.1; simp [maxLen] at q2; omega
  have eg : ∀ args w, (callFunc 59 args).run Try.prog w = .ok (.enter 59 args) w := Go.Proofs.enters_of Try.func59 (by kernel_rfl) rfl
  clear hl
  go_enter Try.func72, Try.ntmps72
  go_wp2_with fail
  go_loopw [8] (fun i wr => ∃ k : Nat, k ≤ n ∧ i = .int .i64 k ∧ (xs.take k).all (fun r => entryR r) = true ∧ Chg (fun _ => False) w wr) (fun i _ => n - (intOf i).toNat)
  case atStart => exact ⟨0, Nat.zero_le _, rfl, rfl, Chg.refl _ _⟩
  case round =>
    obtain ⟨k, hk, rfl, hp, hC⟩ := hrel
    have HP := hid hp
    have HC := hid hC
    clear hp
    by_cases hlt : k < n
    · obtain ⟨r, hr⟩ : ∃ r, xs[k]? = some r := ⟨_, List.getElem?_eq_getElem (by have := HL.out.1; omega)⟩
      obtain ⟨a, cs, ha, haR, hK, hcs⟩ := HL.out.get (by decide) hr
      obtain ⟨E1, m1, d1, E2, m2, d2, rfl, hrw⟩ := entry_open (id hK)
      have HRW := hid hrw
      clear hrw
      subst ha
      have hcs2 : ∀ j u, (entryCells r E1 m1 d1 E2 m2 d2)[j]? = some u → wr.cell? (a.add (k * 9 + j)) = some u := fun j u hj => hC.cell (hcs j u hj) (fun h => h)
      have x0 := elem_cell0 hcs2 _ rfl
      have x1 := elem_cell hcs2 0 _ rfl
      have x2 := elem_cell hcs2 1 _ rfl
      have x3 := elem_cell hcs2 2 _ rfl
      have x4 := elem_cell hcs2 3 _ rfl
      have x5 := elem_cell hcs2 4 _ rfl
      have x6 := elem_cell hcs2 5 _ rfl
      have x7 := elem_cell hcs2 6 _ rfl
      have x8 := elem_cell hcs2 7 _ rfl
      have HN := hid (entq_allk hr)
      have HX := hid (entq_alln (xs := xs) (k := k + 1))
      clear hcs hK hcs2 hr haR hC
      have hlt2 : (k : Int) < (n : Int) := by omega
      go_wp2_with fail
      refine (entq_clo _ (HRW.out.chg HC.out (fun _ _ h => h))).mono ?_
      rintro e w2 ⟨rfl, h2⟩
      have HC2 := hid (HC.out.trans h2 (fun _ h _ => h))
      clear h2 x0 x1 x2 x3 x4 x5 x6 x7 x8
      cases hrr : entryR r
      · have HF := hid (HX.out (by rw [HN.out, hrr, Bool.and_false]))
        clear hrr
        go_wp2_with fail
        go_ret
        exact ⟨⟨(k : Int), rfl, by rw [HF.out]; simp⟩, HC2.out⟩
      · have HF := hid (show (xs.take (k + 1)).all (fun r => entryR r) = true by rw [HN.out, HP.out, hrr]; rfl)
        clear hrr
        go_wp2_with fail
        go_roundw
        case measure => simp [intOf]; omega
        case rel => first | exact ⟨k + 1, hlt, by go_num, HF.out, HC2.out⟩ | ((repeat apply Exists.intro); exact ⟨⟨k + 1, hlt, by go_num, HF.out, HC2.out⟩, rfl⟩)
    · clear eg hC
      have hkn : ¬ (k : Int) < (n : Int) := by omega
      go_wp2_with fail
      go_ret
      have hp := HP.out
      rw [List.take_of_length_le (by have := HL.out.1; omega)] at hp
      exact ⟨⟨-1, rfl, by rw [hp]; rfl⟩, HC.out⟩
set_option maxHeartbeats 4000000 in
set_option maxRecDepth 100000 in
theorem entq_contains {R : Nat → Prop} {A : Option Addr} {n c : Nat} {xs : List (Entry)} {w : World} (hl : Ty.At entryK w R A n c xs) :
    Calls Try.prog 58 #[.slice A n c, .func (.func 59) #[] #[]] w fun e w' => e = .returned (.bool (!(xs.all (fun r => entryR r)))) ∧ Chg (fun _ => False) w w' := by
  have HL := hid hl
  clear hl
  go_enter Try.func58, Try.ntmps58
  go_wp2_with fail
  refine (entq_idx HL.out).mono ?_
  rintro e w1 ⟨⟨i, rfl, hi⟩, hc⟩
  have HI := hid hi
  have HC := hid hc
  clear hi hc
  go_wp2_with fail
  go_ret
  exact ⟨by rw [← HI.out]; rfl, HC.out⟩

def logR (lo hi : Int) (l : List Entry) : Bool := decide (lo ≤ (l.length : Int) ∧ (l.length : Int) ≤ hi) && l.all (fun e => entryR e)
set_option maxHeartbeats 4000000 in
set_option maxRecDepth 100000 in
theorem logged_any {R : Nat → Prop} {A : Option Addr} {n c : Nat} {xs : List Entry} {w : World} (hl : Ty.At entryK w R A n c xs) (lo hi : Int) :
    Calls Try.prog 36 #[.slice A n c, .int .i64 lo, .int .i64 hi] w fun e w' => e = .returned (.bool (logR lo hi xs)) ∧ Chg (fun _ => False) w w' := by
  have HL := hid hl
  have L1 := hid hl.1
  clear hl
  by_cases h1 : lo ≤ (n : Int)
  case neg =>
    have G := hid (show logR lo hi xs = false by unfold logR; rw [decide_eq_false (by have := L1.out; omega)]; rfl)
    go_enter Try.func36, Try.ntmps36
    go_wp2_with fail
    go_ret
    exact ⟨by rw [G.out]; rfl, Chg.refl _ _⟩
  by_cases h2 : (n : Int) ≤ hi
  case neg =>
    have G := hid (show logR lo hi xs = false by unfold logR; rw [decide_eq_false (by have := L1.out; omega)]; rfl)
    go_enter Try.func36, Try.ntmps36
    go_wp2_with fail
    go_ret
    exact ⟨by rw [G.out]; rfl, Chg.refl _ _⟩
  have G := hid (show logR lo hi xs = xs.all (fun e => entryR e) by unfold logR; rw [decide_eq_true (by have := L1.out; omega)]; rfl)
  go_enter Try.func36, Try.ntmps36
  go_wp2_with fail
  refine (entq_contains HL.out).mono ?_
  rintro e w1 ⟨rfl, h1⟩
  have H1 := hid h1
  clear h1
  go_wp2_with fail
  go_ret
  exact ⟨by rw [G.out]; simp, H1.out⟩

set_option maxHeartbeats 4000000 in
set_option maxRecDepth 100000 in
theorem refentries_any {R : Nat → Prop} {A : Option Addr} {n c : Nat} {xs : List Entry} {w : World} (hl : Ty.At entryK w R A n c xs) (hi : Int) :
    Calls Try.prog 38 #[.slice A n c, .int .i64 hi] w fun e w' => e = .returned (.bool (logR 0 hi xs)) ∧ Chg (fun _ => False) w w' := by
  have HL := hid hl
  have L1 := hid hl.1
  have hn2 : (n : Int) ≤ 9223372036854775807 := by have q1 := hl.2.1; have q2 := hl.2.2.1; simp [maxLen] at q2; omega
  clear hl
  by_cases h2 : (n : Int) ≤ hi
  case neg =>
    have G := hid (show logR 0 hi xs = false by unfold logR; rw [decide_eq_false (by have := L1.out; omega)]; rfl)
    have h3 : hi < (n : Int) := by omega
    go_enter Try.func38, Try.ntmps38
    go_wp2_with fail
    go_ret
    exact ⟨by rw [G.out]; rfl, Chg.refl _ _⟩
  have G := hid (show logR 0 hi xs = xs.all (fun e => entryR e) by unfold logR; rw [decide_eq_true (by have := L1.out; omega)]; rfl)
  have h3 : ¬ hi < (n : Int) := by omega
  go_enter Try.func38, Try.ntmps38
  go_wp2_with fail
  clear h2 h3
  go_loopw [5] (fun i wr => ∃ k : Nat, k ≤ n ∧ i = .int .i64 k ∧ (xs.take k).all (fun r => entryR r) = true ∧ Chg (fun _ => False) w wr) (fun i _ => n - (intOf i).toNat)
  case atStart => exact ⟨0, Nat.zero_le _, rfl, rfl, Chg.refl _ _⟩
  case round =>
    obtain ⟨k, hk, rfl, hp, hC⟩ := hrel
    have HP := hid hp
    have HC := hid hC
    clear hp
    by_cases hlt : k < n
    · obtain ⟨r, hr⟩ : ∃ r, xs[k]? = some r := ⟨_, List.getElem?_eq_getElem (by have := HL.out.1; omega)⟩
      obtain ⟨a, cs, ha, haR, hK, hcs⟩ := HL.out.get (by decide) hr
      obtain ⟨E1, m1, d1, E2, m2, d2, rfl, hrw⟩ := entry_open (id hK)
      have HRW := hid hrw
      clear hrw
      subst ha
      have hcs2 : ∀ j u, (entryCells r E1 m1 d1 E2 m2 d2)[j]? = some u → wr.cell? (a.add (k * 9 + j)) = some u := fun j u hj => hC.cell (hcs j u hj) (fun h => h)
      have x0 := elem_cell0 hcs2 _ rfl
      have x1 := elem_cell hcs2 0 _ rfl
      have x2 := elem_cell hcs2 1 _ rfl
      have x3 := elem_cell hcs2 2 _ rfl
      have x4 := elem_cell hcs2 3 _ rfl
      have x5 := elem_cell hcs2 4 _ rfl
      have x6 := elem_cell hcs2 5 _ rfl
      have x7 := elem_cell hcs2 6 _ rfl
      have x8 := elem_cell hcs2 7 _ rfl
      have HN := hid (entq_allk hr)
      have HX := hid (entq_alln (xs := xs) (k := k + 1))
      clear hcs hK hcs2 hr haR hC
      have hlt2 : (k : Int) < (n : Int) := by omega
      go_wp2_with fail
      refine (refentryright_any (e := r) (HRW.out.chg HC.out (fun _ _ h => h))).mono ?_
      rintro e w2 ⟨rfl, h2⟩
      have HC2 := hid (HC.out.trans h2 (fun _ h _ => h))
      clear h2 x0 x1 x2 x3 x4 x5 x6 x7 x8
      cases hrr : entryR r
      · have HF := hid (HX.out (by rw [HN.out, hrr, Bool.and_false]))
        clear hrr
        go_wp2_with fail
        go_ret
        exact ⟨by rw [G.out, HF.out]; rfl, HC2.out⟩
      · have HF := hid (show (xs.take (k + 1)).all (fun r => entryR r) = true by rw [HN.out, HP.out, hrr]; rfl)
        clear hrr
        go_wp2_with fail
        go_roundw
        case measure => simp [intOf]; omega
        case rel => first | exact ⟨k + 1, hlt, by go_num, HF.out, HC2.out⟩ | ((repeat apply Exists.intro); exact ⟨⟨k + 1, hlt, by go_num, HF.out, HC2.out⟩, rfl⟩)
    · clear hC
      have hkn : ¬ (k : Int) < (n : Int) := by omega
      go_wp2_with fail
      go_ret
      have hp := HP.out
      rw [List.take_of_length_le (by have := L1.out; omega)] at hp
      exact ⟨by rw [G.out, hp]; rfl, HC.out⟩
end Go.Proofs.Ytcmfgijdelaelaa.Pa
