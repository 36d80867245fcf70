
/- The contracts of the program's same and Same. -/

import Derived.Test.YtcmfgijdelaelaaPackSa

import Derived.Shelf.Abstract

namespace Go.Proofs.Ytcmfgijdelaelaa.Pa

set_option linter.unusedVariables false

set_option linter.unusedSimpArgs false

open Go.RowKit Go.Proofs.Ytcmfgijdelaelaa.C

attribute [local go_sem] max2_int min2_int max_two min_two

theorem entry_ext {x y : Entry} : x = y ↔ x.view = y.view ∧ x.client = y.client ∧ x.request = y.request ∧ x.dflt = y.dflt ∧ x.closed = y.closed ∧ x.fuel = y.fuel ∧ x.stack = y.stack ∧ x.put = y.put ∧ x.drop = y.drop := by
  cases x
  cases y
  simp
theorem four_blk (w : World) (a b c d : Obj) : (((((w.alloc a).alloc b).alloc c).alloc d).drew.heap[w.heap.size]? = some a ∧ ((((w.alloc a).alloc b).alloc c).alloc d).drew.heap[w.heap.size + 1]? = some b ∧ ((((w.alloc a).alloc b).alloc c).alloc d).drew.heap[w.heap.size + 1 + 1]? = some c ∧ ((((w.alloc a).alloc b).alloc c).alloc d).drew.heap[w.heap.size + 1 + 1 + 1]? = some d) := by
  have h1 := blk_new w a
  have h2 := blk_new (w.alloc a) b
  have h3 := blk_new ((w.alloc a).alloc b) c
  have h4 := blk_new (((w.alloc a).alloc b).alloc c) d
  have s1 : (w.alloc a).heap.size = w.heap.size + 1 := by simp
  have s2 : ((w.alloc a).alloc b).heap.size = w.heap.size + 1 + 1 := by simp
  have s3 : (((w.alloc a).alloc b).alloc c).heap.size = w.heap.size + 1 + 1 + 1 := by simp
  rw [s1] at h2
  rw [s2] at h3
  rw [s3] at h4
  exact ⟨blk_alloc (blk_alloc (blk_alloc h1 _) _) _, blk_alloc (blk_alloc h2 _) _, blk_alloc h3 _, h4⟩
set_option maxHeartbeats 4000000 in
set_option maxRecDepth 100000 in
theorem same_any {R R' : Nat → Prop} {e d : Entry} {A1 : Option Addr} {n1 c1 : Nat} {A2 : Option Addr} {n2 c2 : Nat} {B1 : Option Addr} {m1 d1 : Nat} {B2 : Option Addr} {m2 d2 : Nat} {w : World} (he : EntryAt w R e A1 n1 c1 A2 n2 c2) (hd : EntryAt w R' d B1 m1 d1 B2 m2 d2) :
    Calls Try.prog 46 #[.agg (entryCells e A1 n1 c1 A2 n2 c2).toArray, .agg (entryCells d B1 m1 d1 B2 m2 d2).toArray] w fun e' w' => e' = .returned (.bool (decide (e = d))) ∧ Chg (fun _ => False) w w' := by
  show Calls Try.prog _ #[.agg #[.int .i64 e.view, .int .i64 e.client, .int .i64 e.request, .int .i64 e.dflt, .int .i64 e.closed, .int .i64 e.fuel, .int .i64 e.stack, .slice A1 n1 c1, .slice A2 n2 c2], .agg #[.int .i64 d.view, .int .i64 d.client, .int .i64 d.request, .int .i64 d.dflt, .int .i64 d.closed, .int .i64 d.fuel, .int .i64 d.stack, .slice B1 m1 d1, .slice B2 m2 d2]] w _
  have HE := hid he
  have HD := hid hd
  clear he hd
  go_enter Try.func46, Try.ntmps46
  go_wp2_with fail
  go_region
  · obtain ⟨W, hW⟩ : ∃ W, W = ((((w.alloc (.cells #[.int .i64 e.view, .int .i64 e.client, .int .i64 e.request, .int .i64 e.dflt, .int .i64 e.closed, .int .i64 e.fuel, .int .i64 e.stack, .slice A1 n1 c1, .slice A2 n2 c2] 65)).alloc (.cells #[.int .i64 d.view, .int .i64 d.client, .int .i64 d.request, .int .i64 d.dflt, .int .i64 d.closed, .int .i64 d.fuel, .int .i64 d.stack, .slice B1 m1 d1, .slice B2 m2 d2] 65)).alloc (.cells #[.int .i64 e.dflt, .int .i64 e.closed, .int .i64 e.fuel, .int .i64 e.stack, .slice A1 n1 c1, .slice A2 n2 c2] 63)).alloc (.cells #[.int .i64 d.dflt, .int .i64 d.closed, .int .i64 d.fuel, .int .i64 d.stack, .slice B1 m1 d1, .slice B2 m2 d2] 63)).drew := ⟨_, rfl⟩
    have CB := hid (show Chg (fun _ => False) w W by rw [hW]; exact (((((Chg.refl (fun _ => False) w).alloc _).alloc _).alloc _).alloc _).drew)
    obtain ⟨k1, k2, k3, k4⟩ := four_blk w (.cells #[.int .i64 e.view, .int .i64 e.client, .int .i64 e.request, .int .i64 e.dflt, .int .i64 e.closed, .int .i64 e.fuel, .int .i64 e.stack, .slice A1 n1 c1, .slice A2 n2 c2] 65) (.cells #[.int .i64 d.view, .int .i64 d.client, .int .i64 d.request, .int .i64 d.dflt, .int .i64 d.closed, .int .i64 d.fuel, .int .i64 d.stack, .slice B1 m1 d1, .slice B2 m2 d2] 65) (.cells #[.int .i64 e.dflt, .int .i64 e.closed, .int .i64 e.fuel, .int .i64 e.stack, .slice A1 n1 c1, .slice A2 n2 c2] 63) (.cells #[.int .i64 d.dflt, .int .i64 d.closed, .int .i64 d.fuel, .int .i64 d.stack, .slice B1 m1 d1, .slice B2 m2 d2] 63)
    rw [← hW] at k1 k2 k3 k4 ⊢
    clear hW
    have x0 : W.cell? ⟨w.heap.size, 0, none⟩ = _ := cellAt k1 0
    have y0 : W.cell? ⟨w.heap.size + 1, 0, none⟩ = _ := cellAt k2 0
    have x1 : W.cell? ⟨w.heap.size, 1, none⟩ = _ := cellAt k1 1
    have y1 : W.cell? ⟨w.heap.size + 1, 1, none⟩ = _ := cellAt k2 1
    have x2 : W.cell? ⟨w.heap.size, 2, none⟩ = _ := cellAt k1 2
    have y2 : W.cell? ⟨w.heap.size + 1, 2, none⟩ = _ := cellAt k2 2
    have u0 : W.cell? ⟨w.heap.size + 1 + 1, 0, none⟩ = _ := cellAt k3 0
    have v0 : W.cell? ⟨w.heap.size + 1 + 1 + 1, 0, none⟩ = _ := cellAt k4 0
    have u1 : W.cell? ⟨w.heap.size + 1 + 1, 1, none⟩ = _ := cellAt k3 1
    have v1 : W.cell? ⟨w.heap.size + 1 + 1 + 1, 1, none⟩ = _ := cellAt k4 1
    have u2 : W.cell? ⟨w.heap.size + 1 + 1, 2, none⟩ = _ := cellAt k3 2
    have v2 : W.cell? ⟨w.heap.size + 1 + 1 + 1, 2, none⟩ = _ := cellAt k4 2
    have u3 : W.cell? ⟨w.heap.size + 1 + 1, 3, none⟩ = _ := cellAt k3 3
    have v3 : W.cell? ⟨w.heap.size + 1 + 1 + 1, 3, none⟩ = _ := cellAt k4 3
    have u4 : W.cell? ⟨w.heap.size + 1 + 1, 4, none⟩ = _ := cellAt k3 4
    have v4 : W.cell? ⟨w.heap.size + 1 + 1 + 1, 4, none⟩ = _ := cellAt k4 4
    have u5 : W.cell? ⟨w.heap.size + 1 + 1, 5, none⟩ = _ := cellAt k3 5
    have v5 : W.cell? ⟨w.heap.size + 1 + 1 + 1, 5, none⟩ = _ := cellAt k4 5
    simp only [List.getElem?_toArray, List.getElem?_cons_zero, List.getElem?_cons_succ] at x0 y0 x1 y1 x2 y2 u0 v0 u1 v1 u2 v2 u3 v3 u4 v4 u5 v5
    clear k1 k2 k3 k4
    cases g0 : (e.view == d.view)
    · have G := hid (show ¬ e = d from fun h => by rw [h] at g0; simp at g0)
      go_wp2_with fail
      go_ret
      exact ⟨by rw [decide_eq_false G.out]; rfl, CB.out⟩
    cases g1 : (e.client == d.client)
    · have G := hid (show ¬ e = d from fun h => by rw [h] at g1; simp at g1)
      go_wp2_with fail
      go_ret
      exact ⟨by rw [decide_eq_false G.out]; rfl, CB.out⟩
    cases g2 : (e.request == d.request)
    · have G := hid (show ¬ e = d from fun h => by rw [h] at g2; simp at g2)
      go_wp2_with fail
      go_ret
      exact ⟨by rw [decide_eq_false G.out]; rfl, CB.out⟩
    cases g3 : (e.dflt == d.dflt)
    · have G := hid (show ¬ e = d from fun h => by rw [h] at g3; simp at g3)
      go_wp2_with fail
      go_ret
      exact ⟨by rw [decide_eq_false G.out]; rfl, CB.out⟩
    cases g4 : (e.closed == d.closed)
    · have G := hid (show ¬ e = d from fun h => by rw [h] at g4; simp at g4)
      go_wp2_with fail
      go_ret
      exact ⟨by rw [decide_eq_false G.out]; rfl, CB.out⟩
    cases g5 : (e.fuel == d.fuel)
    · have G := hid (show ¬ e = d from fun h => by rw [h] at g5; simp at g5)
      go_wp2_with fail
      go_ret
      exact ⟨by rw [decide_eq_false G.out]; rfl, CB.out⟩
    cases g6 : (e.stack == d.stack)
    · have G := hid (show ¬ e = d from fun h => by rw [h] at g6; simp at g6)
      go_wp2_with fail
      go_ret
      exact ⟨by rw [decide_eq_false G.out]; rfl, CB.out⟩
    have GN := hid (show e = d ↔ e.put = d.put ∧ e.drop = d.drop from by
      rw [entry_ext]
      simp at g0 g1 g2 g3 g4 g5 g6
      simp [g0, g1, g2, g3, g4, g5, g6])
    have U5 := hid u5
    have V5 := hid v5
    go_wp2_with fail
    clear x0 y0 x1 y1 x2 y2 u0 v0 u1 v1 u2 v2 u3 v3 u4 v4 u5 v5 g0 g1 g2 g3 g4 g5 g6
    refine (ruleseq_any (HE.out.2.1.chg CB.out (fun _ _ h => h)) (HD.out.2.1.chg CB.out (fun _ _ h => h))).mono ?_
    rintro e' w2 ⟨rfl, h2⟩
    have C2 := hid (CB.out.trans h2 (fun _ h _ => h))
    have z5 := h2.cell U5.out (fun h => h)
    have t5 := h2.cell V5.out (fun h => h)
    clear h2
    cases g7 : decide (e.put = d.put)
    · have G := hid (show ¬ e = d from fun h => of_decide_eq_false g7 (GN.out.1 h).1)
      clear g7
      go_wp2_with fail
      go_ret
      exact ⟨by rw [decide_eq_false G.out]; rfl, C2.out⟩
    have G7 := hid (of_decide_eq_true g7)
    clear g7
    go_wp2_with fail
    refine (numseq_any (HE.out.2.2.chg C2.out (fun _ _ h => h)) (HD.out.2.2.chg C2.out (fun _ _ h => h))).mono ?_
    rintro e' w3 ⟨rfl, h3⟩
    have C3 := hid (C2.out.trans h3 (fun _ h _ => h))
    have GE := hid (show decide (e = d) = decide (e.drop = d.drop) from by
      rw [decide_eq_decide]
      exact ⟨fun h => (GN.out.1 h).2, fun h => GN.out.2 ⟨G7.out, h⟩⟩)
    clear h3 z5 t5
    go_wp2_with fail
    go_ret
    exact ⟨by rw [GE.out]; rfl, C3.out⟩
  · obtain ⟨W, hW⟩ : ∃ W, W = ((((w.alloc (.cells #[.int .i64 e.view, .int .i64 e.client, .int .i64 e.request, .int .i64 e.dflt, .int .i64 e.closed, .int .i64 e.fuel, .int .i64 e.stack, .slice A1 n1 c1, .slice A2 n2 c2] 65)).alloc (.cells #[.int .i64 d.view, .int .i64 d.client, .int .i64 d.request, .int .i64 d.dflt, .int .i64 d.closed, .int .i64 d.fuel, .int .i64 d.stack, .slice B1 m1 d1, .slice B2 m2 d2] 65)).alloc (.cells #[.int .i64 d.dflt, .int .i64 d.closed, .int .i64 d.fuel, .int .i64 d.stack, .slice B1 m1 d1, .slice B2 m2 d2] 63)).alloc (.cells #[.int .i64 e.dflt, .int .i64 e.closed, .int .i64 e.fuel, .int .i64 e.stack, .slice A1 n1 c1, .slice A2 n2 c2] 63)).drew := ⟨_, rfl⟩
    have CB := hid (show Chg (fun _ => False) w W by rw [hW]; exact (((((Chg.refl (fun _ => False) w).alloc _).alloc _).alloc _).alloc _).drew)
    obtain ⟨k1, k2, k3, k4⟩ := four_blk w (.cells #[.int .i64 e.view, .int .i64 e.client, .int .i64 e.request, .int .i64 e.dflt, .int .i64 e.closed, .int .i64 e.fuel, .int .i64 e.stack, .slice A1 n1 c1, .slice A2 n2 c2] 65) (.cells #[.int .i64 d.view, .int .i64 d.client, .int .i64 d.request, .int .i64 d.dflt, .int .i64 d.closed, .int .i64 d.fuel, .int .i64 d.stack, .slice B1 m1 d1, .slice B2 m2 d2] 65) (.cells #[.int .i64 d.dflt, .int .i64 d.closed, .int .i64 d.fuel, .int .i64 d.stack, .slice B1 m1 d1, .slice B2 m2 d2] 63) (.cells #[.int .i64 e.dflt, .int .i64 e.closed, .int .i64 e.fuel, .int .i64 e.stack, .slice A1 n1 c1, .slice A2 n2 c2] 63)
    rw [← hW] at k1 k2 k3 k4 ⊢
    clear hW
    have x0 : W.cell? ⟨w.heap.size, 0, none⟩ = _ := cellAt k1 0
    have y0 : W.cell? ⟨w.heap.size + 1, 0, none⟩ = _ := cellAt k2 0
    have x1 : W.cell? ⟨w.heap.size, 1, none⟩ = _ := cellAt k1 1
    have y1 : W.cell? ⟨w.heap.size + 1, 1, none⟩ = _ := cellAt k2 1
    have x2 : W.cell? ⟨w.heap.size, 2, none⟩ = _ := cellAt k1 2
    have y2 : W.cell? ⟨w.heap.size + 1, 2, none⟩ = _ := cellAt k2 2
    have u0 : W.cell? ⟨w.heap.size + 1 + 1 + 1, 0, none⟩ = _ := cellAt k4 0
    have v0 : W.cell? ⟨w.heap.size + 1 + 1, 0, none⟩ = _ := cellAt k3 0
    have u1 : W.cell? ⟨w.heap.size + 1 + 1 + 1, 1, none⟩ = _ := cellAt k4 1
    have v1 : W.cell? ⟨w.heap.size + 1 + 1, 1, none⟩ = _ := cellAt k3 1
    have u2 : W.cell? ⟨w.heap.size + 1 + 1 + 1, 2, none⟩ = _ := cellAt k4 2
    have v2 : W.cell? ⟨w.heap.size + 1 + 1, 2, none⟩ = _ := cellAt k3 2
    have u3 : W.cell? ⟨w.heap.size + 1 + 1 + 1, 3, none⟩ = _ := cellAt k4 3
    have v3 : W.cell? ⟨w.heap.size + 1 + 1, 3, none⟩ = _ := cellAt k3 3
    have u4 : W.cell? ⟨w.heap.size + 1 + 1 + 1, 4, none⟩ = _ := cellAt k4 4
    have v4 : W.cell? ⟨w.heap.size + 1 + 1, 4, none⟩ = _ := cellAt k3 4
    have u5 : W.cell? ⟨w.heap.size + 1 + 1 + 1, 5, none⟩ = _ := cellAt k4 5
    have v5 : W.cell? ⟨w.heap.size + 1 + 1, 5, none⟩ = _ := cellAt k3 5
    simp only [List.getElem?_toArray, List.getElem?_cons_zero, List.getElem?_cons_succ] at x0 y0 x1 y1 x2 y2 u0 v0 u1 v1 u2 v2 u3 v3 u4 v4 u5 v5
    clear k1 k2 k3 k4
    cases g0 : (e.view == d.view)
    · have G := hid (show ¬ e = d from fun h => by rw [h] at g0; simp at g0)
      go_wp2_with fail
      go_ret
      exact ⟨by rw [decide_eq_false G.out]; rfl, CB.out⟩
    cases g1 : (e.client == d.client)
    · have G := hid (show ¬ e = d from fun h => by rw [h] at g1; simp at g1)
      go_wp2_with fail
      go_ret
      exact ⟨by rw [decide_eq_false G.out]; rfl, CB.out⟩
    cases g2 : (e.request == d.request)
    · have G := hid (show ¬ e = d from fun h => by rw [h] at g2; simp at g2)
      go_wp2_with fail
      go_ret
      exact ⟨by rw [decide_eq_false G.out]; rfl, CB.out⟩
    cases g3 : (e.dflt == d.dflt)
    · have G := hid (show ¬ e = d from fun h => by rw [h] at g3; simp at g3)
      go_wp2_with fail
      go_ret
      exact ⟨by rw [decide_eq_false G.out]; rfl, CB.out⟩
    cases g4 : (e.closed == d.closed)
    · have G := hid (show ¬ e = d from fun h => by rw [h] at g4; simp at g4)
      go_wp2_with fail
      go_ret
      exact ⟨by rw [decide_eq_false G.out]; rfl, CB.out⟩
    cases g5 : (e.fuel == d.fuel)
    · have G := hid (show ¬ e = d from fun h => by rw [h] at g5; simp at g5)
      go_wp2_with fail
      go_ret
      exact ⟨by rw [decide_eq_false G.out]; rfl, CB.out⟩
    cases g6 : (e.stack == d.stack)
    · have G := hid (show ¬ e = d from fun h => by rw [h] at g6; simp at g6)
      go_wp2_with fail
      go_ret
      exact ⟨by rw [decide_eq_false G.out]; rfl, CB.out⟩
    have GN := hid (show e = d ↔ e.put = d.put ∧ e.drop = d.drop from by
      rw [entry_ext]
      simp at g0 g1 g2 g3 g4 g5 g6
      simp [g0, g1, g2, g3, g4, g5, g6])
    have U5 := hid u5
    have V5 := hid v5
    go_wp2_with fail
    clear x0 y0 x1 y1 x2 y2 u0 v0 u1 v1 u2 v2 u3 v3 u4 v4 u5 v5 g0 g1 g2 g3 g4 g5 g6
    refine (ruleseq_any (HE.out.2.1.chg CB.out (fun _ _ h => h)) (HD.out.2.1.chg CB.out (fun _ _ h => h))).mono ?_
    rintro e' w2 ⟨rfl, h2⟩
    have C2 := hid (CB.out.trans h2 (fun _ h _ => h))
    have z5 := h2.cell U5.out (fun h => h)
    have t5 := h2.cell V5.out (fun h => h)
    clear h2
    cases g7 : decide (e.put = d.put)
    · have G := hid (show ¬ e = d from fun h => of_decide_eq_false g7 (GN.out.1 h).1)
      clear g7
      go_wp2_with fail
      go_ret
      exact ⟨by rw [decide_eq_false G.out]; rfl, C2.out⟩
    have G7 := hid (of_decide_eq_true g7)
    clear g7
    go_wp2_with fail
    refine (numseq_any (HE.out.2.2.chg C2.out (fun _ _ h => h)) (HD.out.2.2.chg C2.out (fun _ _ h => h))).mono ?_
    rintro e' w3 ⟨rfl, h3⟩
    have C3 := hid (C2.out.trans h3 (fun _ h _ => h))
    have GE := hid (show decide (e = d) = decide (e.drop = d.drop) from by
      rw [decide_eq_decide]
      exact ⟨fun h => (GN.out.1 h).2, fun h => GN.out.2 ⟨G7.out, h⟩⟩)
    clear h3 z5 t5
    go_wp2_with fail
    go_ret
    exact ⟨by rw [GE.out]; rfl, C3.out⟩
end Go.Proofs.Ytcmfgijdelaelaa.Pa
