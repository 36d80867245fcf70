
/- The contracts of an entry's Right, the program's and the document's. -/

import Derived.Test.YtcmfgijdelaelaaPackRb

import Derived.Shelf.Abstract

namespace Go.Proofs.Ytcmfgijdelaelaa.Pa

set_option linter.unusedVariables false

set_option linter.unusedSimpArgs false

open Go.RowKit Go.Proofs.Ytcmfgijdelaelaa.C

attribute [local go_sem] max2_int min2_int max_two min_two

def entryR (e : Entry) : Bool := numR 0 e.view && numR 1 e.client && numR 1 e.request && numR (-1) e.dflt && numR (-1) e.closed && numR (-1) e.fuel && numR (-1) e.stack && decide (e.put.length ≤ 16) && decide (e.drop.length ≤ 16) && e.put.all (fun r => ruleR r) && e.drop.all (fun r => numR 1 r)
theorem numR_ok {lo n : Int} (h : numR lo n = true) (hl : -1 ≤ lo) : NumOk n := by
  have := of_decide_eq_true h
  unfold NumOk
  omega
theorem entryR_ok {e : Entry} (h : entryR e = true) : EntryOk e := by
  unfold entryR at h
  simp only [Bool.and_eq_true, decide_eq_true_eq, List.all_eq_true] at h
  obtain ⟨⟨⟨⟨⟨⟨⟨⟨⟨⟨h1, h2⟩, h3⟩, h4⟩, h5⟩, h6⟩, h7⟩, h8⟩, h9⟩, h10⟩, h11⟩ := h
  refine ⟨?_, fun r hr => ruleR_ok (h10 r hr), fun u hu => numR_ok (h11 u hu) (by decide), by omega, by omega⟩
  intro u hu
  simp [Entry.nums] at hu
  rcases hu with rfl | rfl | rfl | rfl | rfl | rfl | rfl
  · exact numR_ok h1 (by decide)
  · exact numR_ok h2 (by decide)
  · exact numR_ok h3 (by decide)
  · exact numR_ok h4 (by decide)
  · exact numR_ok h5 (by decide)
  · exact numR_ok h6 (by decide)
  · exact numR_ok h7 (by decide)

set_option maxHeartbeats 4000000 in
set_option maxRecDepth 100000 in
theorem entryright_any {R : Nat → Prop} {e : Entry} {A1 : Option Addr} {n1 c1 : Nat} {A2 : Option Addr} {n2 c2 : Nat} {w : World} (he : EntryAt w R e A1 n1 c1 A2 n2 c2) :
    Calls Try.prog 31 #[.agg (entryCells e A1 n1 c1 A2 n2 c2).toArray] w fun e' w' => e' = .returned (.bool (entryR e)) ∧ Chg (fun _ => False) w w' := by
  show Calls Try.prog _ #[.agg #[.int .i64 e.view, .int .i64 e.client, .int .i64 e.request, .int .i64 e.dflt, .int .i64 e.closed, .int .i64 e.fuel, .int .i64 e.stack, .slice A1 n1 c1, .slice A2 n2 c2]] w _
  obtain ⟨w0, hwb⟩ : ∃ w0, w0 = (w.alloc (.cells #[.int .i64 e.view, .int .i64 e.client, .int .i64 e.request, .int .i64 e.dflt, .int .i64 e.closed, .int .i64 e.fuel, .int .i64 e.stack, .slice A1 n1 c1, .slice A2 n2 c2] 65)).alloc (.cells #[.int .i64 e.dflt, .int .i64 e.closed, .int .i64 e.fuel, .int .i64 e.stack, .slice A1 n1 c1, .slice A2 n2 c2] 63) := ⟨_, rfl⟩
  have CB := hid (show Chg (fun _ => False) w w0 by rw [hwb]; exact ((Chg.refl _ w).alloc _).alloc _)
  have B1 := hid (show w0.heap[w.heap.size]? = some (.cells #[.int .i64 e.view, .int .i64 e.client, .int .i64 e.request, .int .i64 e.dflt, .int .i64 e.closed, .int .i64 e.fuel, .int .i64 e.stack, .slice A1 n1 c1, .slice A2 n2 c2] 65 (0, 0)) by rw [hwb]; exact blk_alloc (blk_new w _) _)
  have B2 := hid (show w0.heap[w.heap.size + 1]? = some (.cells #[.int .i64 e.dflt, .int .i64 e.closed, .int .i64 e.fuel, .int .i64 e.stack, .slice A1 n1 c1, .slice A2 n2 c2] 63 (0, 0)) by
    rw [hwb]
    have := blk_new (w.alloc (.cells #[.int .i64 e.view, .int .i64 e.client, .int .i64 e.request, .int .i64 e.dflt, .int .i64 e.closed, .int .i64 e.fuel, .int .i64 e.stack, .slice A1 n1 c1, .slice A2 n2 c2] 65)) (.cells #[.int .i64 e.dflt, .int .i64 e.closed, .int .i64 e.fuel, .int .i64 e.stack, .slice A1 n1 c1, .slice A2 n2 c2] 63)
    simpa using this)
  have HQ1 := hid (he.2.1.chg CB.out (fun _ _ h => h))
  have HQ2 := hid (he.2.2.chg CB.out (fun _ _ h => h))
  have L1 := hid he.2.1.1
  have L2 := hid he.2.2.1
  have hm1' : (n1 : Int) ≤ 9223372036854775807 := by have q1 := he.2.1.2.1; have q2 := he.2.1.2.2.1; simp [maxLen] at q2; omega
  have hm2' : (n2 : Int) ≤ 9223372036854775807 := by have q1 := he.2.2.2.1; have q2 := he.2.2.2.2.1; simp [maxLen] at q2; omega
  clear he
  go_enter Try.func31, Try.ntmps31
  go_wp2_with fail
  rw [← hwb]
  clear hwb
  have x0 : w0.cell? ⟨w.heap.size, 0, none⟩ = _ := cellAt B1.out 0
  have x1 : w0.cell? ⟨w.heap.size, 1, none⟩ = _ := cellAt B1.out 1
  have x2 : w0.cell? ⟨w.heap.size, 2, none⟩ = _ := cellAt B1.out 2
  have y0 : w0.cell? ⟨w.heap.size + 1, 0, none⟩ = _ := cellAt B2.out 0
  have y1 : w0.cell? ⟨w.heap.size + 1, 1, none⟩ = _ := cellAt B2.out 1
  have y2 : w0.cell? ⟨w.heap.size + 1, 2, none⟩ = _ := cellAt B2.out 2
  have y3 : w0.cell? ⟨w.heap.size + 1, 3, none⟩ = _ := cellAt B2.out 3
  have y4 : w0.cell? ⟨w.heap.size + 1, 4, none⟩ = _ := cellAt B2.out 4
  have y5 : w0.cell? ⟨w.heap.size + 1, 5, none⟩ = _ := cellAt B2.out 5
  simp only [List.getElem?_toArray, List.getElem?_cons_zero, List.getElem?_cons_succ] at x0 x1 x2 y0 y1 y2 y3 y4 y5
  go_wp2_with fail
  refine (number_any e.view 0 _).mono ?_
  rintro e' w1 ⟨rfl, rfl⟩
  cases g0 : numR 0 e.view
  · have G := hid g0
    clear g0
    go_wp2_with fail
    go_ret
    exact ⟨by rw [show entryR e = false by simp [entryR, G.out]]; rfl, CB.out⟩
  have G0 := hid g0
  clear g0
  go_wp2_with fail
  refine (number_any e.client 1 _).mono ?_
  rintro e' w1 ⟨rfl, rfl⟩
  cases g1 : numR 1 e.client
  · have G := hid g1
    clear g1
    go_wp2_with fail
    go_ret
    exact ⟨by rw [show entryR e = false by simp [entryR, G.out]]; rfl, CB.out⟩
  have G1 := hid g1
  clear g1
  go_wp2_with fail
  refine (number_any e.request 1 _).mono ?_
  rintro e' w1 ⟨rfl, rfl⟩
  cases g2 : numR 1 e.request
  · have G := hid g2
    clear g2
    go_wp2_with fail
    go_ret
    exact ⟨by rw [show entryR e = false by simp [entryR, G.out]]; rfl, CB.out⟩
  have G2 := hid g2
  clear g2
  go_wp2_with fail
  refine (number_any e.dflt (-1) _).mono ?_
  rintro e' w1 ⟨rfl, rfl⟩
  cases g3 : numR (-1) e.dflt
  · have G := hid g3
    clear g3
    go_wp2_with fail
    go_ret
    exact ⟨by rw [show entryR e = false by simp [entryR, G.out]]; rfl, CB.out⟩
  have G3 := hid g3
  clear g3
  go_wp2_with fail
  refine (number_any e.closed (-1) _).mono ?_
  rintro e' w1 ⟨rfl, rfl⟩
  cases g4 : numR (-1) e.closed
  · have G := hid g4
    clear g4
    go_wp2_with fail
    go_ret
    exact ⟨by rw [show entryR e = false by simp [entryR, G.out]]; rfl, CB.out⟩
  have G4 := hid g4
  clear g4
  go_wp2_with fail
  refine (number_any e.fuel (-1) _).mono ?_
  rintro e' w1 ⟨rfl, rfl⟩
  cases g5 : numR (-1) e.fuel
  · have G := hid g5
    clear g5
    go_wp2_with fail
    go_ret
    exact ⟨by rw [show entryR e = false by simp [entryR, G.out]]; rfl, CB.out⟩
  have G5 := hid g5
  clear g5
  go_wp2_with fail
  refine (number_any e.stack (-1) _).mono ?_
  rintro e' w1 ⟨rfl, rfl⟩
  cases g6 : numR (-1) e.stack
  · have G := hid g6
    clear g6
    go_wp2_with fail
    go_ret
    exact ⟨by rw [show entryR e = false by simp [entryR, G.out]]; rfl, CB.out⟩
  have G6 := hid g6
  clear g6
  by_cases k1 : (n1 : Int) ≤ 16
  case neg =>
    have G := hid (show entryR e = false by unfold entryR; rw [decide_eq_false (show ¬ e.put.length ≤ 16 by have := L1.out; omega)]; simp)
    go_wp2_with fail
    go_ret
    exact ⟨by rw [G.out]; rfl, CB.out⟩
  by_cases k2 : (n2 : Int) ≤ 16
  case neg =>
    have G := hid (show entryR e = false by unfold entryR; rw [decide_eq_false (show ¬ e.drop.length ≤ 16 by have := L2.out; omega)]; simp)
    go_wp2_with fail
    go_ret
    exact ⟨by rw [G.out]; rfl, CB.out⟩
  go_wp2_with fail
  refine (ruleq_contains HQ1.out).mono ?_
  rintro e' w2 ⟨rfl, h2⟩
  have C2 := hid h2
  have z5 := h2.cell y5 (fun h => h)
  clear h2
  cases g8 : e.put.all (fun r => ruleR r)
  · have G := hid (show entryR e = false by simp only [entryR, g8, Bool.and_false, Bool.false_and])
    clear g8
    go_wp2_with fail
    go_ret
    exact ⟨by rw [G.out]; rfl, CB.out.trans C2.out (fun _ h _ => h)⟩
  have G8 := hid g8
  clear g8
  go_wp2_with fail
  refine (numq_contains (HQ2.out.chg C2.out (fun _ _ h => h))).mono ?_
  rintro e' w3 ⟨rfl, h3⟩
  have C3 := hid h3
  clear h3
  have GE := hid (show entryR e = e.drop.all (fun r => numR 1 r) by
    unfold entryR
    rw [G0.out, G1.out, G2.out, G3.out, G4.out, G5.out, G6.out, G8.out, decide_eq_true (show e.put.length ≤ 16 by have := L1.out; omega), decide_eq_true (show e.drop.length ≤ 16 by have := L2.out; omega)]
    rfl)
  go_wp2_with fail
  go_ret
  exact ⟨by rw [GE.out]; simp, (CB.out.trans C2.out (fun _ h _ => h)).trans C3.out (fun _ h _ => h)⟩

set_option maxHeartbeats 4000000 in
set_option maxRecDepth 100000 in
theorem refentryright_any {R : Nat → Prop} {e : Entry} {A1 : Option Addr} {n1 c1 : Nat} {A2 : Option Addr} {n2 c2 : Nat} {w : World} (he : EntryAt w R e A1 n1 c1 A2 n2 c2) :
    Calls Try.prog 32 #[.agg (entryCells e A1 n1 c1 A2 n2 c2).toArray] w fun e' w' => e' = .returned (.bool (entryR e)) ∧ Chg (fun _ => False) w w' := by
  show Calls Try.prog _ #[.agg #[.int .i64 e.view, .int .i64 e.client, .int .i64 e.request, .int .i64 e.dflt, .int .i64 e.closed, .int .i64 e.fuel, .int .i64 e.stack, .slice A1 n1 c1, .slice A2 n2 c2]] w _
  obtain ⟨w0, hwb⟩ : ∃ w0, w0 = (w.alloc (.cells #[.int .i64 e.view, .int .i64 e.client, .int .i64 e.request, .int .i64 e.dflt, .int .i64 e.closed, .int .i64 e.fuel, .int .i64 e.stack, .slice A1 n1 c1, .slice A2 n2 c2] 70)).alloc (.cells #[.int .i64 e.dflt, .int .i64 e.closed, .int .i64 e.fuel, .int .i64 e.stack, .slice A1 n1 c1, .slice A2 n2 c2] 68) := ⟨_, rfl⟩
  have CB := hid (show Chg (fun _ => False) w w0 by rw [hwb]; exact ((Chg.refl _ w).alloc _).alloc _)
  have B1 := hid (show w0.heap[w.heap.size]? = some (.cells #[.int .i64 e.view, .int .i64 e.client, .int .i64 e.request, .int .i64 e.dflt, .int .i64 e.closed, .int .i64 e.fuel, .int .i64 e.stack, .slice A1 n1 c1, .slice A2 n2 c2] 70 (0, 0)) by rw [hwb]; exact blk_alloc (blk_new w _) _)
  have B2 := hid (show w0.heap[w.heap.size + 1]? = some (.cells #[.int .i64 e.dflt, .int .i64 e.closed, .int .i64 e.fuel, .int .i64 e.stack, .slice A1 n1 c1, .slice A2 n2 c2] 68 (0, 0)) by
    rw [hwb]
    have := blk_new (w.alloc (.cells #[.int .i64 e.view, .int .i64 e.client, .int .i64 e.request, .int .i64 e.dflt, .int .i64 e.closed, .int .i64 e.fuel, .int .i64 e.stack, .slice A1 n1 c1, .slice A2 n2 c2] 70)) (.cells #[.int .i64 e.dflt, .int .i64 e.closed, .int .i64 e.fuel, .int .i64 e.stack, .slice A1 n1 c1, .slice A2 n2 c2] 68)
    simpa using this)
  have HQ1 := hid (he.2.1.chg CB.out (fun _ _ h => h))
  have HQ2 := hid (he.2.2.chg CB.out (fun _ _ h => h))
  have L1 := hid he.2.1.1
  have L2 := hid he.2.2.1
  have hm1' : (n1 : Int) ≤ 9223372036854775807 := by have q1 := he.2.1.2.1; have q2 := he.2.1.2.2.1; simp [maxLen] at q2; omega
  have hm2' : (n2 : Int) ≤ 9223372036854775807 := by have q1 := he.2.2.2.1; have q2 := he.2.2.2.2.1; simp [maxLen] at q2; omega
  clear he
  go_enter Try.func32, Try.ntmps32
  go_wp2_with fail
  rw [← hwb]
  clear hwb
  have x0 : w0.cell? ⟨w.heap.size, 0, none⟩ = _ := cellAt B1.out 0
  have x1 : w0.cell? ⟨w.heap.size, 1, none⟩ = _ := cellAt B1.out 1
  have x2 : w0.cell? ⟨w.heap.size, 2, none⟩ = _ := cellAt B1.out 2
  have y0 : w0.cell? ⟨w.heap.size + 1, 0, none⟩ = _ := cellAt B2.out 0
  have y1 : w0.cell? ⟨w.heap.size + 1, 1, none⟩ = _ := cellAt B2.out 1
  have y2 : w0.cell? ⟨w.heap.size + 1, 2, none⟩ = _ := cellAt B2.out 2
  have y3 : w0.cell? ⟨w.heap.size + 1, 3, none⟩ = _ := cellAt B2.out 3
  have y4 : w0.cell? ⟨w.heap.size + 1, 4, none⟩ = _ := cellAt B2.out 4
  have y5 : w0.cell? ⟨w.heap.size + 1, 5, none⟩ = _ := cellAt B2.out 5
  simp only [List.getElem?_toArray, List.getElem?_cons_zero, List.getElem?_cons_succ] at x0 x1 x2 y0 y1 y2 y3 y4 y5
  go_wp2_with fail
  refine (within_any e.view 0 1099511627776 _).mono ?_
  rintro e' w1 ⟨rfl, rfl⟩
  rw [show inR 0 1099511627776 e.view = numR 0 e.view from rfl]
  cases g0 : numR 0 e.view
  · have G := hid g0
    clear g0
    go_wp2_with fail
    go_ret
    exact ⟨by rw [show entryR e = false by simp [entryR, G.out]]; rfl, CB.out⟩
  have G0 := hid g0
  clear g0
  go_wp2_with fail
  refine (within_any e.client 1 1099511627776 _).mono ?_
  rintro e' w1 ⟨rfl, rfl⟩
  rw [show inR 1 1099511627776 e.client = numR 1 e.client from rfl]
  cases g1 : numR 1 e.client
  · have G := hid g1
    clear g1
    go_wp2_with fail
    go_ret
    exact ⟨by rw [show entryR e = false by simp [entryR, G.out]]; rfl, CB.out⟩
  have G1 := hid g1
  clear g1
  go_wp2_with fail
  refine (within_any e.request 1 1099511627776 _).mono ?_
  rintro e' w1 ⟨rfl, rfl⟩
  rw [show inR 1 1099511627776 e.request = numR 1 e.request from rfl]
  cases g2 : numR 1 e.request
  · have G := hid g2
    clear g2
    go_wp2_with fail
    go_ret
    exact ⟨by rw [show entryR e = false by simp [entryR, G.out]]; rfl, CB.out⟩
  have G2 := hid g2
  clear g2
  by_cases k1 : (n1 : Int) ≤ 16
  case neg =>
    have G := hid (show entryR e = false by unfold entryR; rw [decide_eq_false (show ¬ e.put.length ≤ 16 by have := L1.out; omega)]; simp)
    go_wp2_with fail
    go_ret
    exact ⟨by rw [G.out]; rfl, CB.out⟩
  by_cases k2 : (n2 : Int) ≤ 16
  case neg =>
    have G := hid (show entryR e = false by unfold entryR; rw [decide_eq_false (show ¬ e.drop.length ≤ 16 by have := L2.out; omega)]; simp)
    go_wp2_with fail
    go_ret
    exact ⟨by rw [G.out]; rfl, CB.out⟩
  go_wp2_with fail
  refine (within_any e.dflt (-1) 1099511627776 _).mono ?_
  rintro e' w1 ⟨rfl, rfl⟩
  rw [show inR (-1) 1099511627776 e.dflt = numR (-1) e.dflt from rfl]
  cases g3 : numR (-1) e.dflt
  · have G := hid g3
    clear g3
    go_wp2_with fail
    go_ret
    exact ⟨by rw [show entryR e = false by simp [entryR, G.out]]; rfl, CB.out⟩
  have G3 := hid g3
  clear g3
  go_wp2_with fail
  refine (within_any e.closed (-1) 1099511627776 _).mono ?_
  rintro e' w1 ⟨rfl, rfl⟩
  rw [show inR (-1) 1099511627776 e.closed = numR (-1) e.closed from rfl]
  cases g4 : numR (-1) e.closed
  · have G := hid g4
    clear g4
    go_wp2_with fail
    go_ret
    exact ⟨by rw [show entryR e = false by simp [entryR, G.out]]; rfl, CB.out⟩
  have G4 := hid g4
  clear g4
  go_wp2_with fail
  refine (within_any e.fuel (-1) 1099511627776 _).mono ?_
  rintro e' w1 ⟨rfl, rfl⟩
  rw [show inR (-1) 1099511627776 e.fuel = numR (-1) e.fuel from rfl]
  cases g5 : numR (-1) e.fuel
  · have G := hid g5
    clear g5
    go_wp2_with fail
    go_ret
    exact ⟨by rw [show entryR e = false by simp [entryR, G.out]]; rfl, CB.out⟩
  have G5 := hid g5
  clear g5
  go_wp2_with fail
  refine (within_any e.stack (-1) 1099511627776 _).mono ?_
  rintro e' w1 ⟨rfl, rfl⟩
  rw [show inR (-1) 1099511627776 e.stack = numR (-1) e.stack from rfl]
  cases g6 : numR (-1) e.stack
  · have G := hid g6
    clear g6
    go_wp2_with fail
    go_ret
    exact ⟨by rw [show entryR e = false by simp [entryR, G.out]]; rfl, CB.out⟩
  have G6 := hid g6
  clear g6
  have GE := hid (show entryR e = (e.put.all (fun r => ruleR r) && e.drop.all (fun r => numR 1 r)) by
    unfold entryR
    rw [G0.out, G1.out, G2.out, G3.out, G4.out, G5.out, G6.out, decide_eq_true (show e.put.length ≤ 16 by have := L1.out; omega), decide_eq_true (show e.drop.length ≤ 16 by have := L2.out; omega)]
    rfl)
  have Y4 := hid y4
  have Y5 := hid y5
  clear x0 x1 x2 y0 y1 y2 y3 y4 y5
  go_wp2_with fail
  go_loopw [4] (fun i wr => ∃ k : Nat, k ≤ n1 ∧ i = .int .i64 k ∧ (e.put.take k).all (fun r => ruleR r) = true ∧ Chg (fun _ => False) w0 wr) (fun i _ => n1 - (intOf i).toNat)
  case atStart => exact ⟨0, Nat.zero_le _, rfl, rfl, Chg.refl _ _⟩
  case round =>
    obtain ⟨k, hk, rfl, hp, hC⟩ := hrel
    have HP := hid hp
    have HC := hid hC
    have z4 := hC.cell Y4.out (fun h => h)
    clear hp
    by_cases hlt : k < n1
    · obtain ⟨r, hr⟩ : ∃ r, e.put[k]? = some r := ⟨_, List.getElem?_eq_getElem (by have := L1.out; omega)⟩
      obtain ⟨a, cs, ha, haR, hK, hcs⟩ := HQ1.out.get (by decide) hr
      obtain ⟨rfl, hrw⟩ := rule_open hK
      clear hrw
      subst ha
      have hcs2 : ∀ j u, (ruleCells r)[j]? = some u → wr.cell? (a.add (k * 5 + j)) = some u := fun j u hj => hC.cell (hcs j u hj) (fun h => h)
      have x0 := elem_cell0 hcs2 _ rfl
      have x1 := elem_cell hcs2 0 _ rfl
      have x2 := elem_cell hcs2 1 _ rfl
      have x3 := elem_cell hcs2 2 _ rfl
      have x4 := elem_cell hcs2 3 _ rfl
      have HN := hid (ruleq_allk hr)
      have HX := hid (ruleq_alln (xs := e.put) (k := k + 1))
      clear hcs hK hcs2 hr haR hC
      have hlt2 : (k : Int) < (n1 : Int) := by omega
      go_wp2_with fail
      refine (refruleright_any r _).mono ?_
      rintro e' w2 ⟨rfl, h2⟩
      have HC2 := hid (HC.out.trans h2 (fun _ h _ => h))
      clear h2 x0 x1 x2 x3 x4
      cases hrr : ruleR r
      · have HF := hid (HX.out (by rw [HN.out, hrr, Bool.and_false]))
        clear hrr
        go_wp2_with fail
        go_ret
        exact ⟨by rw [GE.out, HF.out]; rfl, CB.out.trans HC2.out (fun _ h _ => h)⟩
      · have HF := hid (show (e.put.take (k + 1)).all (fun r => ruleR r) = true by rw [HN.out, HP.out, hrr]; rfl)
        clear hrr
        go_wp2_with fail
        go_roundw
        case measure => simp [intOf]; omega
        case rel => first | exact ⟨k + 1, hlt, by go_num, HF.out, HC2.out⟩ | ((repeat apply Exists.intro); exact ⟨⟨k + 1, hlt, by go_num, HF.out, HC2.out⟩, rfl⟩)
    · clear hC
      have hkn : ¬ (k : Int) < (n1 : Int) := by omega
      have HPA := hid (show e.put.all (fun r => ruleR r) = true by
        have hp := HP.out
        rwa [List.take_of_length_le (by have := L1.out; omega)] at hp)
      go_wp2_with fail
      clear z4
      obtain ⟨wl, hwl⟩ : ∃ wl, wl = wr := ⟨_, rfl⟩
      have HL2 := hid (show Chg (fun _ => False) w0 wl by rw [hwl]; exact HC.out)
      rw [← hwl]
      clear hwl HC
      go_loopw [5] (fun i wr => ∃ k : Nat, k ≤ n2 ∧ i = .int .i64 k ∧ (e.drop.take k).all (fun r => numR 1 r) = true ∧ Chg (fun _ => False) w0 wr) (fun i _ => n2 - (intOf i).toNat)
      case atStart => exact ⟨0, Nat.zero_le _, rfl, rfl, HL2.out⟩
      case round =>
        obtain ⟨j, hj, rfl, hp, hC⟩ := hrel
        have HP2 := hid hp
        have HC := hid hC
        have z5 := hC.cell Y5.out (fun h => h)
        clear hp
        by_cases hlt : j < n2
        · obtain ⟨r, hr⟩ : ∃ r, e.drop[j]? = some r := ⟨_, List.getElem?_eq_getElem (by have := L2.out; omega)⟩
          obtain ⟨a, cs, ha, haR, hK, hcs⟩ := HQ2.out.get (by decide) hr
          obtain ⟨rfl, hrw⟩ := (id hK)
          clear hrw
          subst ha
          have hcs2 : ∀ i u, [Value.int .i64 r][i]? = some u → wr.cell? (a.add (j * 1 + i)) = some u := fun i u hi => hC.cell (hcs i u hi) (fun h => h)
          have x0 := elem_cell0 hcs2 _ rfl
          rw [Nat.mul_one] at x0
          have HN := hid (numq_allk hr)
          have HX := hid (numq_alln (xs := e.drop) (k := j + 1))
          clear hcs hK hcs2 hr haR hC
          have hlt2 : (j : Int) < (n2 : Int) := by omega
          go_wp2_with fail
          refine (within_any r 1 1099511627776 _).mono ?_
          rintro e' w2 ⟨rfl, rfl⟩
          rw [show inR 1 1099511627776 r = numR 1 r from rfl]
          cases hrr : numR 1 r
          · have HF := hid (HX.out (by rw [HN.out, hrr, Bool.and_false]))
            clear hrr
            go_wp2_with fail
            go_ret
            exact ⟨by rw [GE.out, HF.out, Bool.and_false]; rfl, CB.out.trans HC.out (fun _ h _ => h)⟩
          · have HF := hid (show (e.drop.take (j + 1)).all (fun r => numR 1 r) = true by rw [HN.out, HP2.out, hrr]; rfl)
            clear hrr
            go_wp2_with fail
            go_roundw
            case measure => simp [intOf]; omega
            case rel => first | exact ⟨j + 1, hlt, by go_num, HF.out, HC.out⟩ | ((repeat apply Exists.intro); exact ⟨⟨j + 1, hlt, by go_num, HF.out, HC.out⟩, rfl⟩)
        · clear hC
          have hkn : ¬ (j : Int) < (n2 : Int) := by omega
          go_wp2_with fail
          go_ret
          have hp := HP2.out
          rw [List.take_of_length_le (by have := L2.out; omega)] at hp
          exact ⟨by rw [GE.out, HPA.out, hp]; rfl, CB.out.trans HC.out (fun _ h _ => h)⟩
end Go.Proofs.Ytcmfgijdelaelaa.Pa
