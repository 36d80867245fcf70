
/- The contract of Right at messages, the document's. -/

import Derived.Test.YtcmfgijdelaelaaPackRe

namespace Go.Proofs.Ytcmfgijdelaelaa.Pa

set_option linter.unusedVariables false

set_option linter.unusedSimpArgs false

open Go.RowKit Go.Proofs.Ytcmfgijdelaelaa.C

attribute [local go_sem] max2_int min2_int max_two min_two

set_option maxHeartbeats 4000000 in
set_option maxRecDepth 100000 in
theorem refmsgright_any {R : Nat → Prop} {m : Msg} {A : Option Addr} {n c : Nat} {w : World} (hl : Ty.At entryK w R A n c m.log) :
    Calls Try.prog 24 #[.agg (msgCells m A n c).toArray] w fun e' w' => e' = .returned (.bool (msgR m)) ∧ Chg (fun _ => False) w w' := by
  show Calls Try.prog _ #[.agg #[.int .i64 m.kind, .int .i64 m.view, .int .i64 m.src, .int .i64 m.dst, .int .i64 m.op, .int .i64 m.commit, .int .i64 m.normal, .slice A n c]] w _
  obtain ⟨w0, hw0⟩ : ∃ w0, w0 = w.alloc (.cells #[.int .i64 m.kind, .int .i64 m.view, .int .i64 m.src, .int .i64 m.dst, .int .i64 m.op, .int .i64 m.commit, .int .i64 m.normal, .slice A n c] 47) := ⟨_, rfl⟩
  have CB := hid (show Chg (fun _ => False) w w0 by rw [hw0]; exact (Chg.refl _ w).alloc _)
  have B1 := hid (show w0.heap[w.heap.size]? = some (.cells #[.int .i64 m.kind, .int .i64 m.view, .int .i64 m.src, .int .i64 m.dst, .int .i64 m.op, .int .i64 m.commit, .int .i64 m.normal, .slice A n c] 47 (0, 0)) by rw [hw0]; exact blk_new w _)
  have HQ := hid (hl.chg CB.out (fun _ _ h => h))
  have L1 := hid hl.1
  have hm1 : (n : Int) ≤ 9223372036854775807 := by have q1 := hl.2.1; have q2 := hl.2.2.1; simp [maxLen] at q2; omega
  clear hl
  go_enter Try.func24, Try.ntmps24
  go_wp2_with fail
  rw [← hw0]
  clear hw0
  have x0 : w0.cell? ⟨w.heap.size, 0, none⟩ = _ := cellAt B1.out 0
  have x1 : w0.cell? ⟨w.heap.size, 1, none⟩ = _ := cellAt B1.out 1
  have x2 : w0.cell? ⟨w.heap.size, 2, none⟩ = _ := cellAt B1.out 2
  have x3 : w0.cell? ⟨w.heap.size, 3, none⟩ = _ := cellAt B1.out 3
  have x4 : w0.cell? ⟨w.heap.size, 4, none⟩ = _ := cellAt B1.out 4
  have x5 : w0.cell? ⟨w.heap.size, 5, none⟩ = _ := cellAt B1.out 5
  have x6 : w0.cell? ⟨w.heap.size, 6, none⟩ = _ := cellAt B1.out 6
  have x7 : w0.cell? ⟨w.heap.size, 7, none⟩ = _ := cellAt B1.out 7
  simp only [List.getElem?_toArray, List.getElem?_cons_zero, List.getElem?_cons_succ] at x0 x1 x2 x3 x4 x5 x6 x7
  refine (within_any m.kind 1 8 _).mono ?_
  rintro e' w1 ⟨rfl, rfl⟩
  cases a : inR 1 8 m.kind
  · have G := hid (show msgR m = false by simp [msgR, a])
    clear a
    go_wp2_with fail
    go_ret
    exact ⟨by rw [G.out]; rfl, CB.out⟩
  have Ia := hid a
  clear a
  go_wp2_with fail
  refine (within_any m.view 0 1099511627776 _).mono ?_
  rintro e' w1 ⟨rfl, rfl⟩
  cases b : inR 0 1099511627776 m.view
  · have G := hid (show msgR m = false by simp [msgR, b, show numR 0 m.view = false from b])
    clear b
    go_wp2_with fail
    go_ret
    exact ⟨by rw [G.out]; rfl, CB.out⟩
  have Ib := hid b
  clear b
  go_wp2_with fail
  refine (within_any m.normal 0 1099511627776 _).mono ?_
  rintro e' w1 ⟨rfl, rfl⟩
  cases c' : inR 0 1099511627776 m.normal
  · have G := hid (show msgR m = false by simp [msgR, c', show numR 0 m.normal = false from c'])
    clear c'
    go_wp2_with fail
    go_ret
    exact ⟨by rw [G.out]; rfl, CB.out⟩
  have Ic' := hid c'
  clear c'
  go_wp2_with fail
  refine (within_any m.src 0 6 _).mono ?_
  rintro e' w1 ⟨rfl, rfl⟩
  cases d : inR 0 6 m.src
  · have G := hid (show msgR m = false by simp [msgR, d])
    clear d
    go_wp2_with fail
    go_ret
    exact ⟨by rw [G.out]; rfl, CB.out⟩
  have Id := hid d
  clear d
  go_wp2_with fail
  refine (within_any m.dst 0 6 _).mono ?_
  rintro e' w1 ⟨rfl, rfl⟩
  cases f : inR 0 6 m.dst
  · have G := hid (show msgR m = false by simp [msgR, f])
    clear f
    go_wp2_with fail
    go_ret
    exact ⟨by rw [G.out]; rfl, CB.out⟩
  have If := hid f
  clear f
  go_wp2_with fail
  refine (within_any m.op 0 64 _).mono ?_
  rintro e' w1 ⟨rfl, rfl⟩
  cases g : inR 0 64 m.op
  · have G := hid (show msgR m = false by simp [msgR, g])
    clear g
    go_wp2_with fail
    go_ret
    exact ⟨by rw [G.out]; rfl, CB.out⟩
  have Ig := hid g
  clear g
  go_wp2_with fail
  refine (within_any m.commit 0 64 _).mono ?_
  rintro e' w1 ⟨rfl, rfl⟩
  cases h : inR 0 64 m.commit
  · have G := hid (show msgR m = false by simp [msgR, h])
    clear h
    go_wp2_with fail
    go_ret
    exact ⟨by rw [G.out]; rfl, CB.out⟩
  have Ih := hid h
  clear h
  have GE := hid (show msgR m = (if m.kind = 1 then logR 1 1 m.log else if m.kind = 5 ∨ m.kind = 6 ∨ m.kind = 8 then logR 0 64 m.log else decide (m.log.length = 0)) by unfold msgR; rw [Ia.out, show numR 0 m.view = true from Ib.out, show numR 0 m.normal = true from Ic'.out, Id.out, If.out, Ig.out, Ih.out]; rfl)
  by_cases k1 : m.kind = 1
  · have G := hid (show msgR m = logR 1 1 m.log by rw [GE.out, if_pos k1])
    clear GE
    by_cases hz : n = 1
    · subst hz
      have G2 := hid (show logR 1 1 m.log = logR 0 1 m.log by rw [logR_one, decide_eq_true L1.out.symm]; rfl)
      go_wp2_with fail
      refine (refentries_any HQ.out 1).mono ?_
      rintro e' w2 ⟨rfl, h2⟩
      have H2 := hid (CB.out.trans h2 (fun _ h _ => h))
      clear h2
      go_wp2_with fail
      go_ret
      exact ⟨by rw [G.out, G2.out]; simp, H2.out⟩
    · have hz2 : ¬ (n : Int) = 1 := by omega
      have G2 := hid (show logR 1 1 m.log = false by rw [logR_one, decide_eq_false (by rw [← L1.out]; exact hz)]; rfl)
      go_wp2_with fail
      go_ret
      exact ⟨by rw [G.out, G2.out]; rfl, CB.out⟩
  have K1 := hid k1
  by_cases k5 : m.kind = 5
  · have G := hid (show msgR m = logR 0 64 m.log by rw [GE.out, if_neg K1.out, if_pos (by omega)])
    clear GE
    go_wp2_with fail
    refine (refentries_any HQ.out 64).mono ?_
    rintro e' w2 ⟨rfl, h2⟩
    have H2 := hid (CB.out.trans h2 (fun _ h _ => h))
    clear h2
    go_wp2_with fail
    go_ret
    exact ⟨by rw [G.out]; rfl, H2.out⟩
  by_cases k6 : m.kind = 6
  · have G := hid (show msgR m = logR 0 64 m.log by rw [GE.out, if_neg K1.out, if_pos (by omega)])
    clear GE
    go_wp2_with fail
    refine (refentries_any HQ.out 64).mono ?_
    rintro e' w2 ⟨rfl, h2⟩
    have H2 := hid (CB.out.trans h2 (fun _ h _ => h))
    clear h2
    go_wp2_with fail
    go_ret
    exact ⟨by rw [G.out]; rfl, H2.out⟩
  by_cases k8 : m.kind = 8
  · have G := hid (show msgR m = logR 0 64 m.log by rw [GE.out, if_neg K1.out, if_pos (by omega)])
    clear GE
    go_wp2_with fail
    refine (refentries_any HQ.out 64).mono ?_
    rintro e' w2 ⟨rfl, h2⟩
    have H2 := hid (CB.out.trans h2 (fun _ h _ => h))
    clear h2
    go_wp2_with fail
    go_ret
    exact ⟨by rw [G.out]; rfl, H2.out⟩
  have G := hid (show msgR m = decide (m.log.length = 0) by rw [GE.out, if_neg K1.out, if_neg (by omega)])
  have b5 : (m.kind == 5) = false := by simpa using k5
  have b6 : (m.kind == 6) = false := by simpa using k6
  have b8 : (m.kind == 8) = false := by simpa using k8
  clear GE
  by_cases hz : n = 0
  · subst hz
    go_wp2_with fail
    go_ret
    exact ⟨by rw [G.out, decide_eq_true L1.out.symm]; rfl, CB.out⟩
  · have hz2 : ¬ (n : Int) = 0 := by omega
    go_wp2_with fail
    go_ret
    have e0 := decide_eq_false (show ¬ m.log.length = 0 by rw [← L1.out]; exact hz)
    exact ⟨by rw [G.out, e0]; simp [hz], CB.out⟩
end Go.Proofs.Ytcmfgijdelaelaa.Pa
