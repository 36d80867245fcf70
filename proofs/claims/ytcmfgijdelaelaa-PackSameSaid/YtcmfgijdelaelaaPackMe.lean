
/- What the statements ask of entries: are they small? -/

import Derived.Test.YtcmfgijdelaelaaPackK

namespace Go.Proofs.Ytcmfgijdelaelaa.Pa

set_option linter.unusedVariables false

set_option linter.unusedSimpArgs false

open Go.RowKit Go.Proofs.Ytcmfgijdelaelaa.C

attribute [local go_sem] max2_int min2_int max_two min_two

def smallE (e : Entry) : Bool := decide (e.put.length ≤ 20) && decide (e.drop.length ≤ 20) && e.put.all (fun r => decide (r.pat.size ≤ 300))
def smallR (l : List Entry) : Bool := l.all (fun e => smallE e) && decide (l.length ≤ 70)
theorem smallR_put {l : List Entry} (h : smallR l = true) : ∀ e ∈ l, e.put.length ≤ 1000000 := by
  intro e he
  unfold smallR at h
  simp only [Bool.and_eq_true, List.all_eq_true] at h
  have := h.1 e he
  unfold smallE at this
  simp only [Bool.and_eq_true, decide_eq_true_eq] at this
  omega
theorem smallR_len {l : List Entry} (h : smallR l = true) : l.length ≤ 70 := by
  unfold smallR at h
  simp only [Bool.and_eq_true, decide_eq_true_eq] at h
  exact h.2
theorem small_no {l : List Entry} {k : Nat} {e : Entry} (h : l[k]? = some e) (he : smallE e = false) : smallR l = false := by
  unfold smallR
  rw [Bool.and_eq_false_iff]
  left
  rw [List.all_eq_false]
  exact ⟨e, List.mem_of_getElem? h, by simp [he]⟩
set_option maxHeartbeats 4000000 in
set_option maxRecDepth 100000 in
theorem small_any {w : World} {R : Nat → Prop} {xs : List Entry} {A : Option Addr} {n c : Nat} (hl : Ty.At entryK w R A n c xs) :
    Calls Try.prog 11 #[.slice A n c] w fun e' w' => e' = .returned (.bool (smallR xs)) ∧ Chg (fun _ => False) w w' := by
  have HL := hid hl
  have L1 := hid hl.1
  have hn2 : (n : Int) ≤ 9223372036854775807 := by have q1 := hl.2.1; have q2 := hl.2.2.1; simp [maxLen] at q2; omega
  clear hl
  go_enter Try.func11, Try.ntmps11
  go_wp2_with fail
  go_loopw [9] (fun i wr => ∃ k : Nat, k ≤ n ∧ i = .int .i64 k ∧ (xs.take k).all (fun e => smallE e) = true ∧ Chg (fun _ => False) w wr) (fun i _ => n - (intOf i).toNat)
  case atStart => exact ⟨0, Nat.zero_le _, rfl, rfl, Chg.refl _ _⟩
  case round =>
    obtain ⟨k, hk, rfl, hp, hC⟩ := hrel
    have HP := hid hp
    have HC := hid hC
    clear hp hC
    by_cases hlt : k < n
    · have hlt2 : (k : Int) < (n : Int) := by omega
      obtain ⟨r, hr⟩ : ∃ r, xs[k]? = some r := ⟨_, List.getElem?_eq_getElem (by have := L1.out; omega)⟩
      obtain ⟨a, cs, ha, haR, hK, hcs⟩ := HL.out.get (by decide) hr
      obtain ⟨E1, m1, d1, E2, m2, d2, rfl, hrw⟩ := entry_open (id hK)
      subst ha
      have hcs2 : ∀ j u, (entryCells r E1 m1 d1 E2 m2 d2)[j]? = some u → wr.cell? (a.add (k * 9 + j)) = some u := fun j u hj => HC.out.cell (hcs j u hj) (fun h => h)
      have x0 := elem_cell0 hcs2 _ rfl
      have x1 := elem_cell hcs2 0 _ rfl
      have x2 := elem_cell hcs2 1 _ rfl
      have x3 := elem_cell hcs2 2 _ rfl
      have x4 := elem_cell hcs2 3 _ rfl
      have x5 := elem_cell hcs2 4 _ rfl
      have x6 := elem_cell hcs2 5 _ rfl
      have x7 := elem_cell hcs2 6 _ rfl
      have x8 := elem_cell hcs2 7 _ rfl
      have HNO := hid (fun he => small_no hr he)
      have HAK := hid (show (xs.take (k + 1)).all (fun e => smallE e) = ((xs.take k).all (fun e => smallE e) && smallE r) by rw [List.take_add_one, hr, Option.toList_some, List.all_append]; simp)
      have HPUT := hid (hrw.2.1.chg HC.out (fun _ _ h => h))
      have M1 := hid hrw.2.1.1
      have M2 := hid hrw.2.2.1
      have hm1 : (m1 : Int) ≤ 9223372036854775807 := by have q1 := hrw.2.1.2.1; have q2 := hrw.2.1.2.2.1; simp [maxLen] at q2; omega
      clear hcs hK hcs2 hr haR hrw
      by_cases k1 : (m1 : Int) ≤ 20
      case neg =>
        have G := hid (HNO.out (show smallE r = false by unfold smallE; rw [decide_eq_false (show ¬ r.put.length ≤ 20 by have := M1.out; omega)]; rfl))
        have k1' : (20 : Int) < (m1 : Int) := by omega
        clear k1
        go_wp2_with fail
        go_ret
        exact ⟨by rw [G.out]; rfl, HC.out.alloc _⟩
      by_cases k2 : (m2 : Int) ≤ 20
      case neg =>
        have G := hid (HNO.out (show smallE r = false by unfold smallE; rw [decide_eq_false (show ¬ r.drop.length ≤ 20 by have := M2.out; omega)]; simp))
        have k2' : (20 : Int) < (m2 : Int) := by omega
        have k1' : ¬ (20 : Int) < (m1 : Int) := by omega
        clear k1 k2
        go_wp2_with fail
        go_ret
        exact ⟨by rw [G.out]; rfl, HC.out.alloc _⟩
      have GE := hid (show smallE r = r.put.all (fun r => decide (r.pat.size ≤ 300)) by unfold smallE; rw [decide_eq_true (show r.put.length ≤ 20 by have := M1.out; omega), decide_eq_true (show r.drop.length ≤ 20 by have := M2.out; omega)]; rfl)
      have k1' : ¬ (20 : Int) < (m1 : Int) := by omega
      have k2' : ¬ (20 : Int) < (m2 : Int) := by omega
      obtain ⟨W1, hW1⟩ : ∃ W1, W1 = wr.alloc (.cells #[.int .i64 r.view, .int .i64 r.client, .int .i64 r.request, .int .i64 r.dflt, .int .i64 r.closed, .int .i64 r.fuel, .int .i64 r.stack, .slice E1 m1 d1, .slice E2 m2 d2] 65) := ⟨_, rfl⟩
      have CW1 := hid (show Chg (fun _ => False) wr W1 by rw [hW1]; exact (Chg.refl _ wr).alloc _)
      have HW1 := hid hW1
      clear hW1 k1 k2
      go_wp2_with fail
      rw [← HW1.out]
      clear HW1 x0 x1 x2 x3 x4 x5 x6 x7 x8
      have CWW := hid (HC.out.trans CW1.out (fun _ h _ => h))
      go_loopw [29] (fun i wr => ∃ j : Nat, j ≤ m1 ∧ i = .int .i64 j ∧ (r.put.take j).all (fun r => decide (r.pat.size ≤ 300)) = true ∧ Chg (fun _ => False) W1 wr) (fun i _ => m1 - (intOf i).toNat)
      case atStart => exact ⟨0, Nat.zero_le _, rfl, rfl, Chg.refl _ _⟩
      case round =>
        obtain ⟨j, hj, rfl, hp, hC⟩ := hrel
        have HP2 := hid hp
        have HC2 := hid hC
        clear hp hC
        by_cases hlt : j < m1
        · have hlt2 : (j : Int) < (m1 : Int) := by omega
          obtain ⟨y, hy⟩ : ∃ y, r.put[j]? = some y := ⟨_, List.getElem?_eq_getElem (by have := M1.out; omega)⟩
          obtain ⟨b, ds, hb, hbR, hK, hds⟩ := HPUT.out.get (by decide) hy
          obtain ⟨rfl, hrw⟩ := rule_open hK
          subst hb
          have hds2 : ∀ i u, (ruleCells y)[i]? = some u → wr.cell? (b.add (j * 5 + i)) = some u := fun i u hi => HC2.out.cell (CW1.out.cell (hds i u hi) (fun h => h)) (fun h => h)
          have x0 := elem_cell0 hds2 _ rfl
          have x1 := elem_cell hds2 0 _ rfl
          have x2 := elem_cell hds2 1 _ rfl
          have x3 := elem_cell hds2 2 _ rfl
          have x4 := elem_cell hds2 3 _ rfl
          have HAL := hid (show (r.put.take (j + 1)).all (fun r => decide (r.pat.size ≤ 300)) = ((r.put.take j).all (fun r => decide (r.pat.size ≤ 300)) && decide (y.pat.size ≤ 300)) by rw [List.take_add_one, hy, Option.toList_some, List.all_append]; simp)
          have HBAD := hid (fun (h : decide (y.pat.size ≤ 300) = false) => (show r.put.all (fun r => decide (r.pat.size ≤ 300)) = false by rw [List.all_eq_false]; exact ⟨y, List.mem_of_getElem? hy, by simp only [h]; simp⟩))
          clear hds hK hds2 hy hbR hrw
          by_cases k3 : y.pat.size ≤ 300
          · have k3' : ¬ (300 : Int) < (y.pat.size : Int) := by omega
            have HN := hid (show (r.put.take (j + 1)).all (fun r => decide (r.pat.size ≤ 300)) = true by rw [HAL.out, HP2.out, decide_eq_true k3]; rfl)
            have HCN := hid (HC2.out.alloc (.cells #[.int .i64 y.id, .int .i64 y.pri, .int .i64 y.act, .int .i64 y.scope, .string y.pat] 72))
            clear k3
            go_wp2_with fail
            go_roundw
            case measure => simp [intOf]; omega
            case rel => first | exact ⟨j + 1, hlt, by go_num, HN.out, HCN.out⟩ | ((repeat apply Exists.intro); exact ⟨⟨j + 1, hlt, by go_num, HN.out, HCN.out⟩, rfl⟩)
          · have k3' : (300 : Int) < (y.pat.size : Int) := by omega
            have G := hid (HNO.out (show smallE r = false by rw [GE.out]; exact HBAD.out (decide_eq_false k3)))
            clear k3
            go_wp2_with fail
            go_ret
            exact ⟨by rw [G.out]; rfl, (CWW.out.trans HC2.out (fun _ h _ => h)).alloc _⟩
        · have hkn : ¬ (j : Int) < (m1 : Int) := by omega
          have HS := hid (show smallE r = true by
            have hp := HP2.out
            rw [List.take_of_length_le (by have := M1.out; omega)] at hp
            rw [GE.out, hp])
          have HN := hid (show (xs.take (k + 1)).all (fun e => smallE e) = true by rw [HAK.out, HP.out, HS.out]; rfl)
          have HCN := hid (CWW.out.trans HC2.out (fun _ h _ => h))
          go_wp2_with fail
          go_roundw
          case measure => simp [intOf]; omega
          case rel => first | exact ⟨k + 1, by omega, by go_num, HN.out, HCN.out⟩ | ((repeat apply Exists.intro); exact ⟨⟨k + 1, by omega, by go_num, HN.out, HCN.out⟩, rfl⟩)
    · have hkn : ¬ (k : Int) < (n : Int) := by omega
      have HF := hid (show smallR xs = decide (xs.length ≤ 70) by
        have hp := HP.out
        rw [List.take_of_length_le (by have := L1.out; omega)] at hp
        unfold smallR
        rw [hp]
        rfl)
      by_cases k7 : (n : Int) ≤ 70
      · go_wp2_with fail
        go_ret
        exact ⟨by rw [HF.out, decide_eq_true (by have := L1.out; omega)]; simp [k7], HC.out⟩
      · have k7' : decide ((n : Int) ≤ 70) = false := decide_eq_false k7
        go_wp2_with fail
        go_ret
        exact ⟨by rw [HF.out, decide_eq_false (by have := L1.out; omega)]; simp [k7'], HC.out⟩
end Go.Proofs.Ytcmfgijdelaelaa.Pa
