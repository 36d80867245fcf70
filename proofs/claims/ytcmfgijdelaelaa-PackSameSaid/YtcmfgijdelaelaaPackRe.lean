
/- The contracts of Right at messages and records, the program's and the document's. -/

import Derived.Test.YtcmfgijdelaelaaPackRd

namespace Go.Proofs.Ytcmfgijdelaelaa.Pa

set_option linter.unusedVariables false

set_option linter.unusedSimpArgs false

open Go.RowKit Go.Proofs.Ytcmfgijdelaelaa.C

attribute [local go_sem] max2_int min2_int max_two min_two

def msgR (m : Msg) : Bool := inR 1 8 m.kind && numR 0 m.view && numR 0 m.normal && inR 0 6 m.src && inR 0 6 m.dst && inR 0 64 m.op && inR 0 64 m.commit && (if m.kind = 1 then logR 1 1 m.log else if m.kind = 5 ∨ m.kind = 6 ∨ m.kind = 8 then logR 0 64 m.log else decide (m.log.length = 0))
def recR (m : Rec) : Bool := inR 1 5 m.kind && numR 0 m.a && numR 0 m.b && (if m.kind = 2 then logR 1 1 m.log else decide (m.log.length = 0))
theorem logR_one (l : List Entry) : logR 1 1 l = (decide (l.length = 1) && logR 0 1 l) := by
  unfold logR
  by_cases h : l.length = 1
  · rw [h]; rfl
  · rw [decide_eq_false h, decide_eq_false (by omega)]; rfl
theorem numR_in {lo n hi : Int} (h1 : lo ≤ n) (h2 : n ≤ hi) : inR lo hi n = true := decide_eq_true ⟨h1, h2⟩
theorem numR_no1 {lo n hi : Int} (h1 : ¬ lo ≤ n) : inR lo hi n = false := decide_eq_false (fun h => h1 h.1)
theorem numR_no2 {lo n hi : Int} (h1 : ¬ n ≤ hi) : inR lo hi n = false := decide_eq_false (fun h => h1 h.2)

set_option maxHeartbeats 4000000 in
set_option maxRecDepth 100000 in
theorem msgright_any {R : Nat → Prop} {m : Msg} {A : Option Addr} {n c : Nat} {w : World} (hl : Ty.At entryK w R A n c m.log) :
    Calls Try.prog 23 #[.agg (msgCells m A n c).toArray] w fun e' w' => e' = .returned (.bool (msgR m)) ∧ Chg (fun _ => False) w w' := by
  show Calls Try.prog _ #[.agg #[.int .i64 m.kind, .int .i64 m.view, .int .i64 m.src, .int .i64 m.dst, .int .i64 m.op, .int .i64 m.commit, .int .i64 m.normal, .slice A n c]] w _
  obtain ⟨w0, hw0⟩ : ∃ w0, w0 = w.alloc (.cells #[.int .i64 m.kind, .int .i64 m.view, .int .i64 m.src, .int .i64 m.dst, .int .i64 m.op, .int .i64 m.commit, .int .i64 m.normal, .slice A n c] 43) := ⟨_, rfl⟩
  have CB := hid (show Chg (fun _ => False) w w0 by rw [hw0]; exact (Chg.refl _ w).alloc _)
  have B1 := hid (show w0.heap[w.heap.size]? = some (.cells #[.int .i64 m.kind, .int .i64 m.view, .int .i64 m.src, .int .i64 m.dst, .int .i64 m.op, .int .i64 m.commit, .int .i64 m.normal, .slice A n c] 43 (0, 0)) by rw [hw0]; exact blk_new w _)
  have HQ := hid (hl.chg CB.out (fun _ _ h => h))
  have L1 := hid hl.1
  have hm1 : (n : Int) ≤ 9223372036854775807 := by have q1 := hl.2.1; have q2 := hl.2.2.1; simp [maxLen] at q2; omega
  clear hl
  by_cases aa : 1 ≤ m.kind
  case neg =>
    have G := hid (show msgR m = false by simp [msgR, numR_no1 (hi := 8) aa])
    go_enter Try.func23, Try.ntmps23
    go_wp2_with fail
    rw [← hw0]
    go_ret
    exact ⟨by rw [G.out]; rfl, CB.out⟩
  by_cases ab : m.kind ≤ 8
  case neg =>
    have G := hid (show msgR m = false by simp [msgR, numR_no2 (lo := 1) ab])
    go_enter Try.func23, Try.ntmps23
    go_wp2_with fail
    rw [← hw0]
    go_ret
    exact ⟨by rw [G.out]; rfl, CB.out⟩
  have Ia := hid (numR_in aa ab)
  go_enter Try.func23, Try.ntmps23
  go_wp2_with fail
  rw [← hw0]
  clear hw0
  have x0 : w0.cell? ⟨w.heap.size, 0, none⟩ = _ := cellAt B1.out 0
  have x1 : w0.cell? ⟨w.heap.size, 1, none⟩ = _ := cellAt B1.out 1
  have x2 : w0.cell? ⟨w.heap.size, 2, none⟩ = _ := cellAt B1.out 2
  have x3 : w0.cell? ⟨w.heap.size, 3, none⟩ = _ := cellAt B1.out 3
  have x4 : w0.cell? ⟨w.heap.size, 4, none⟩ = _ := cellAt B1.out 4
  have x5 : w0.cell? ⟨w.heap.size, 5, none⟩ = _ := cellAt B1.out 5
  have x6 : w0.cell? ⟨w.heap.size, 6, none⟩ = _ := cellAt B1.out 6
  have x7 : w0.cell? ⟨w.heap.size, 7, none⟩ = _ := cellAt B1.out 7
  simp only [List.getElem?_toArray, List.getElem?_cons_zero, List.getElem?_cons_succ] at x0 x1 x2 x3 x4 x5 x6 x7
  refine (number_any m.view 0 _).mono ?_
  rintro e' w1 ⟨rfl, rfl⟩
  cases b : numR 0 m.view
  · have G := hid (show msgR m = false by simp [msgR, b])
    clear b
    go_wp2_with fail
    go_ret
    exact ⟨by rw [G.out]; rfl, CB.out⟩
  have Ib := hid b
  clear b
  go_wp2_with fail
  refine (number_any m.normal 0 _).mono ?_
  rintro e' w1 ⟨rfl, rfl⟩
  cases c' : numR 0 m.normal
  · have G := hid (show msgR m = false by simp [msgR, c'])
    clear c'
    go_wp2_with fail
    go_ret
    exact ⟨by rw [G.out]; rfl, CB.out⟩
  have Ic' := hid c'
  clear c'
  by_cases da : 0 ≤ m.src
  case neg =>
    have G := hid (show msgR m = false by simp [msgR, numR_no1 (hi := 6) da])
    go_wp2_with fail
    go_ret
    exact ⟨by rw [G.out]; rfl, CB.out⟩
  by_cases db : m.src ≤ 6
  case neg =>
    have G := hid (show msgR m = false by simp [msgR, numR_no2 (lo := 0) db])
    go_wp2_with fail
    go_ret
    exact ⟨by rw [G.out]; rfl, CB.out⟩
  have Id := hid (numR_in da db)
  by_cases fa : 0 ≤ m.dst
  case neg =>
    have G := hid (show msgR m = false by simp [msgR, numR_no1 (hi := 6) fa])
    go_wp2_with fail
    go_ret
    exact ⟨by rw [G.out]; rfl, CB.out⟩
  by_cases fb : m.dst ≤ 6
  case neg =>
    have G := hid (show msgR m = false by simp [msgR, numR_no2 (lo := 0) fb])
    go_wp2_with fail
    go_ret
    exact ⟨by rw [G.out]; rfl, CB.out⟩
  have If := hid (numR_in fa fb)
  by_cases ga : 0 ≤ m.op
  case neg =>
    have G := hid (show msgR m = false by simp [msgR, numR_no1 (hi := 64) ga])
    go_wp2_with fail
    go_ret
    exact ⟨by rw [G.out]; rfl, CB.out⟩
  by_cases gb : m.op ≤ 64
  case neg =>
    have G := hid (show msgR m = false by simp [msgR, numR_no2 (lo := 0) gb])
    go_wp2_with fail
    go_ret
    exact ⟨by rw [G.out]; rfl, CB.out⟩
  have Ig := hid (numR_in ga gb)
  by_cases ha : 0 ≤ m.commit
  case neg =>
    have G := hid (show msgR m = false by simp [msgR, numR_no1 (hi := 64) ha])
    go_wp2_with fail
    go_ret
    exact ⟨by rw [G.out]; rfl, CB.out⟩
  by_cases hb : m.commit ≤ 64
  case neg =>
    have G := hid (show msgR m = false by simp [msgR, numR_no2 (lo := 0) hb])
    go_wp2_with fail
    go_ret
    exact ⟨by rw [G.out]; rfl, CB.out⟩
  have Ih := hid (numR_in ha hb)
  have GE := hid (show msgR m = (if m.kind = 1 then logR 1 1 m.log else if m.kind = 5 ∨ m.kind = 6 ∨ m.kind = 8 then logR 0 64 m.log else decide (m.log.length = 0)) by unfold msgR; rw [Ia.out, Ib.out, Ic'.out, Id.out, If.out, Ig.out, Ih.out]; rfl)
  by_cases k1 : m.kind = 1
  · have G := hid (show msgR m = logR 1 1 m.log by rw [GE.out, if_pos k1])
    clear GE
    go_wp2_with fail
    refine (logged_any HQ.out 1 1).mono ?_
    rintro e' w2 ⟨rfl, h2⟩
    have H2 := hid (CB.out.trans h2 (fun _ h _ => h))
    clear h2
    go_wp2_with fail
    go_ret
    exact ⟨by rw [G.out]; rfl, H2.out⟩
  have K1 := hid k1
  by_cases k5 : m.kind = 5
  · have G := hid (show msgR m = logR 0 64 m.log by rw [GE.out, if_neg K1.out, if_pos (by omega)])
    clear GE
    go_wp2_with fail
    refine (logged_any HQ.out 0 64).mono ?_
    rintro e' w2 ⟨rfl, h2⟩
    have H2 := hid (CB.out.trans h2 (fun _ h _ => h))
    clear h2
    go_wp2_with fail
    go_ret
    exact ⟨by rw [G.out]; rfl, H2.out⟩
  by_cases k6 : m.kind = 6
  · have G := hid (show msgR m = logR 0 64 m.log by rw [GE.out, if_neg K1.out, if_pos (by omega)])
    clear GE
    go_wp2_with fail
    refine (logged_any HQ.out 0 64).mono ?_
    rintro e' w2 ⟨rfl, h2⟩
    have H2 := hid (CB.out.trans h2 (fun _ h _ => h))
    clear h2
    go_wp2_with fail
    go_ret
    exact ⟨by rw [G.out]; rfl, H2.out⟩
  by_cases k8 : m.kind = 8
  · have G := hid (show msgR m = logR 0 64 m.log by rw [GE.out, if_neg K1.out, if_pos (by omega)])
    clear GE
    go_wp2_with fail
    refine (logged_any HQ.out 0 64).mono ?_
    rintro e' w2 ⟨rfl, h2⟩
    have H2 := hid (CB.out.trans h2 (fun _ h _ => h))
    clear h2
    go_wp2_with fail
    go_ret
    exact ⟨by rw [G.out]; rfl, H2.out⟩
  have G := hid (show msgR m = decide (m.log.length = 0) by rw [GE.out, if_neg K1.out, if_neg (by omega)])
  clear GE
  by_cases hz : n = 0
  · subst hz
    go_wp2_with fail
    go_ret
    exact ⟨by rw [G.out, decide_eq_true L1.out.symm]; rfl, CB.out⟩
  · have hz2 : ¬ (n : Int) = 0 := by omega
    go_wp2_with fail
    go_ret
    have e0 := decide_eq_false (show ¬ m.log.length = 0 by rw [← L1.out]; exact hz)
    exact ⟨by rw [G.out, e0]; simp [hz], CB.out⟩
end Go.Proofs.Ytcmfgijdelaelaa.Pa
