
/- The contracts of Right at records, the program's and the document's. -/

import Derived.Test.YtcmfgijdelaelaaPackRe

namespace Go.Proofs.Ytcmfgijdelaelaa.Pa

set_option linter.unusedVariables false

set_option linter.unusedSimpArgs false

open Go.RowKit Go.Proofs.Ytcmfgijdelaelaa.C

attribute [local go_sem] max2_int min2_int max_two min_two

set_option maxHeartbeats 4000000 in
set_option maxRecDepth 100000 in
theorem recright_any {R : Nat → Prop} {m : Rec} {A : Option Addr} {n c : Nat} {w : World} (hl : Ty.At entryK w R A n c m.log) :
    Calls Try.prog 14 #[.agg (recCells m A n c).toArray] w fun e' w' => e' = .returned (.bool (recR m)) ∧ Chg (fun _ => False) w w' := by
  show Calls Try.prog _ #[.agg #[.int .i64 m.kind, .int .i64 m.a, .int .i64 m.b, .slice A n c]] w _
  obtain ⟨w0, hw0⟩ : ∃ w0, w0 = w.alloc (.cells #[.int .i64 m.kind, .int .i64 m.a, .int .i64 m.b, .slice A n c] 24) := ⟨_, rfl⟩
  have CB := hid (show Chg (fun _ => False) w w0 by rw [hw0]; exact (Chg.refl _ w).alloc _)
  have B1 := hid (show w0.heap[w.heap.size]? = some (.cells #[.int .i64 m.kind, .int .i64 m.a, .int .i64 m.b, .slice A n c] 24 (0, 0)) by rw [hw0]; exact blk_new w _)
  have HQ := hid (hl.chg CB.out (fun _ _ h => h))
  have L1 := hid hl.1
  have hm1 : (n : Int) ≤ 9223372036854775807 := by have q1 := hl.2.1; have q2 := hl.2.2.1; simp [maxLen] at q2; omega
  clear hl
  by_cases aa : 1 ≤ m.kind
  case neg =>
    have G := hid (show recR m = false by simp [recR, numR_no1 (hi := 5) aa])
    go_enter Try.func14, Try.ntmps14
    go_wp2_with fail
    rw [← hw0]
    go_ret
    exact ⟨by rw [G.out]; rfl, CB.out⟩
  by_cases ab : m.kind ≤ 5
  case neg =>
    have G := hid (show recR m = false by simp [recR, numR_no2 (lo := 1) ab])
    go_enter Try.func14, Try.ntmps14
    go_wp2_with fail
    rw [← hw0]
    go_ret
    exact ⟨by rw [G.out]; rfl, CB.out⟩
  have Ia := hid (numR_in aa ab)
  go_enter Try.func14, Try.ntmps14
  go_wp2_with fail
  rw [← hw0]
  clear hw0
  have x0 : w0.cell? ⟨w.heap.size, 0, none⟩ = _ := cellAt B1.out 0
  have x1 : w0.cell? ⟨w.heap.size, 1, none⟩ = _ := cellAt B1.out 1
  have x2 : w0.cell? ⟨w.heap.size, 2, none⟩ = _ := cellAt B1.out 2
  have x3 : w0.cell? ⟨w.heap.size, 3, none⟩ = _ := cellAt B1.out 3
  simp only [List.getElem?_toArray, List.getElem?_cons_zero, List.getElem?_cons_succ] at x0 x1 x2 x3
  refine (number_any m.a 0 _).mono ?_
  rintro e' w1 ⟨rfl, rfl⟩
  cases b : numR 0 m.a
  · have G := hid (show recR m = false by simp [recR, b])
    clear b
    go_wp2_with fail
    go_ret
    exact ⟨by rw [G.out]; rfl, CB.out⟩
  have Ib := hid b
  clear b
  go_wp2_with fail
  refine (number_any m.b 0 _).mono ?_
  rintro e' w1 ⟨rfl, rfl⟩
  cases c' : numR 0 m.b
  · have G := hid (show recR m = false by simp [recR, c'])
    clear c'
    go_wp2_with fail
    go_ret
    exact ⟨by rw [G.out]; rfl, CB.out⟩
  have Ic' := hid c'
  clear c'
  have GE := hid (show recR m = (if m.kind = 2 then logR 1 1 m.log else decide (m.log.length = 0)) by unfold recR; rw [Ia.out, Ib.out, Ic'.out]; rfl)
  by_cases k1 : m.kind = 2
  · have G := hid (show recR m = logR 1 1 m.log by rw [GE.out, if_pos k1])
    clear GE
    go_wp2_with fail
    refine (logged_any HQ.out 1 1).mono ?_
    rintro e' w2 ⟨rfl, h2⟩
    have H2 := hid (CB.out.trans h2 (fun _ h _ => h))
    clear h2
    go_wp2_with fail
    go_ret
    exact ⟨by rw [G.out]; rfl, H2.out⟩
  have G := hid (show recR m = decide (m.log.length = 0) by rw [GE.out, if_neg k1])
  clear GE
  by_cases hz : n = 0
  · subst hz
    go_wp2_with fail
    go_ret
    exact ⟨by rw [G.out, decide_eq_true L1.out.symm]; rfl, CB.out⟩
  · have hz2 : ¬ (n : Int) = 0 := by omega
    go_wp2_with fail
    go_ret
    have e0 := decide_eq_false (show ¬ m.log.length = 0 by rw [← L1.out]; exact hz)
    exact ⟨by rw [G.out, e0]; simp [hz], CB.out⟩

set_option maxHeartbeats 4000000 in
set_option maxRecDepth 100000 in
theorem refrecright_any {R : Nat → Prop} {m : Rec} {A : Option Addr} {n c : Nat} {w : World} (hl : Ty.At entryK w R A n c m.log) :
    Calls Try.prog 15 #[.agg (recCells m A n c).toArray] w fun e' w' => e' = .returned (.bool (recR m)) ∧ Chg (fun _ => False) w w' := by
  show Calls Try.prog _ #[.agg #[.int .i64 m.kind, .int .i64 m.a, .int .i64 m.b, .slice A n c]] w _
  obtain ⟨w0, hw0⟩ : ∃ w0, w0 = w.alloc (.cells #[.int .i64 m.kind, .int .i64 m.a, .int .i64 m.b, .slice A n c] 30) := ⟨_, rfl⟩
  have CB := hid (show Chg (fun _ => False) w w0 by rw [hw0]; exact (Chg.refl _ w).alloc _)
  have B1 := hid (show w0.heap[w.heap.size]? = some (.cells #[.int .i64 m.kind, .int .i64 m.a, .int .i64 m.b, .slice A n c] 30 (0, 0)) by rw [hw0]; exact blk_new w _)
  have HQ := hid (hl.chg CB.out (fun _ _ h => h))
  have L1 := hid hl.1
  have hm1 : (n : Int) ≤ 9223372036854775807 := by have q1 := hl.2.1; have q2 := hl.2.2.1; simp [maxLen] at q2; omega
  clear hl
  go_enter Try.func15, Try.ntmps15
  go_wp2_with fail
  rw [← hw0]
  clear hw0
  have x0 : w0.cell? ⟨w.heap.size, 0, none⟩ = _ := cellAt B1.out 0
  have x1 : w0.cell? ⟨w.heap.size, 1, none⟩ = _ := cellAt B1.out 1
  have x2 : w0.cell? ⟨w.heap.size, 2, none⟩ = _ := cellAt B1.out 2
  have x3 : w0.cell? ⟨w.heap.size, 3, none⟩ = _ := cellAt B1.out 3
  simp only [List.getElem?_toArray, List.getElem?_cons_zero, List.getElem?_cons_succ] at x0 x1 x2 x3
  refine (within_any m.kind 1 5 _).mono ?_
  rintro e' w1 ⟨rfl, rfl⟩
  cases a : inR 1 5 m.kind
  · have G := hid (show recR m = false by simp [recR, a])
    clear a
    go_wp2_with fail
    go_ret
    exact ⟨by rw [G.out]; rfl, CB.out⟩
  have Ia := hid a
  clear a
  go_wp2_with fail
  refine (within_any m.a 0 1099511627776 _).mono ?_
  rintro e' w1 ⟨rfl, rfl⟩
  cases b : inR 0 1099511627776 m.a
  · have G := hid (show recR m = false by simp [recR, b, show numR 0 m.a = false from b])
    clear b
    go_wp2_with fail
    go_ret
    exact ⟨by rw [G.out]; rfl, CB.out⟩
  have Ib := hid b
  clear b
  go_wp2_with fail
  refine (within_any m.b 0 1099511627776 _).mono ?_
  rintro e' w1 ⟨rfl, rfl⟩
  cases c' : inR 0 1099511627776 m.b
  · have G := hid (show recR m = false by simp [recR, c', show numR 0 m.b = false from c'])
    clear c'
    go_wp2_with fail
    go_ret
    exact ⟨by rw [G.out]; rfl, CB.out⟩
  have Ic' := hid c'
  clear c'
  have GE := hid (show recR m = (if m.kind = 2 then logR 1 1 m.log else decide (m.log.length = 0)) by unfold recR; rw [Ia.out, show numR 0 m.a = true from Ib.out, show numR 0 m.b = true from Ic'.out]; rfl)
  by_cases k1 : m.kind = 2
  · have G := hid (show recR m = logR 1 1 m.log by rw [GE.out, if_pos k1])
    clear GE
    by_cases hz : n = 1
    · subst hz
      have G2 := hid (show logR 1 1 m.log = logR 0 1 m.log by rw [logR_one, decide_eq_true L1.out.symm]; rfl)
      go_wp2_with fail
      refine (refentries_any HQ.out 1).mono ?_
      rintro e' w2 ⟨rfl, h2⟩
      have H2 := hid (CB.out.trans h2 (fun _ h _ => h))
      clear h2
      go_wp2_with fail
      go_ret
      exact ⟨by rw [G.out, G2.out]; simp, H2.out⟩
    · have hz2 : ¬ (n : Int) = 1 := by omega
      have G2 := hid (show logR 1 1 m.log = false by rw [logR_one, decide_eq_false (by rw [← L1.out]; exact hz)]; rfl)
      go_wp2_with fail
      go_ret
      exact ⟨by rw [G.out, G2.out]; rfl, CB.out⟩
  have G := hid (show recR m = decide (m.log.length = 0) by rw [GE.out, if_neg k1])
  clear GE
  by_cases hz : n = 0
  · subst hz
    go_wp2_with fail
    go_ret
    exact ⟨by rw [G.out, decide_eq_true L1.out.symm]; rfl, CB.out⟩
  · have hz2 : ¬ (n : Int) = 0 := by omega
    go_wp2_with fail
    go_ret
    have e0 := decide_eq_false (show ¬ m.log.length = 0 by rw [← L1.out]; exact hz)
    exact ⟨by rw [G.out, e0]; simp [hz], CB.out⟩
end Go.Proofs.Ytcmfgijdelaelaa.Pa
