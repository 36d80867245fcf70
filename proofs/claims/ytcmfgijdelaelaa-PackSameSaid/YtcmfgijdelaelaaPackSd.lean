
/- The contracts of the document's SameDelta and Same. -/

import Derived.Test.YtcmfgijdelaelaaPackSb

import Derived.Shelf.Abstract

namespace Go.Proofs.Ytcmfgijdelaelaa.Pa

set_option linter.unusedVariables false

set_option linter.unusedSimpArgs false

open Go.RowKit Go.Proofs.Ytcmfgijdelaelaa.C

attribute [local go_sem] max2_int min2_int max_two min_two

/-- A delta's part of an entry: is it the same? -/
def dsame (e d : Entry) : Bool := e.dflt == d.dflt && e.closed == d.closed && e.fuel == d.fuel && e.stack == d.stack && decide (e.put = d.put) && decide (e.drop = d.drop)
theorem entry_dsame (e d : Entry) : decide (e = d) = (e.view == d.view && e.client == d.client && e.request == d.request && dsame e d) := by
  rw [Bool.eq_iff_iff, decide_eq_true_iff, entry_ext]
  unfold dsame
  simp only [Bool.and_eq_true, beq_iff_eq, decide_eq_true_eq, and_assoc]
set_option maxHeartbeats 4000000 in
set_option maxRecDepth 100000 in
theorem samedelta_any {R R' : Nat → Prop} {e d : Entry} {A1 : Option Addr} {n1 c1 : Nat} {A2 : Option Addr} {n2 c2 : Nat} {B1 : Option Addr} {m1 d1 : Nat} {B2 : Option Addr} {m2 d2 : Nat} {w : World} (he : EntryAt w R e A1 n1 c1 A2 n2 c2) (hd : EntryAt w R' d B1 m1 d1 B2 m2 d2) :
    Calls Try.prog 47 #[.agg #[.int .i64 e.dflt, .int .i64 e.closed, .int .i64 e.fuel, .int .i64 e.stack, .slice A1 n1 c1, .slice A2 n2 c2], .agg #[.int .i64 d.dflt, .int .i64 d.closed, .int .i64 d.fuel, .int .i64 d.stack, .slice B1 m1 d1, .slice B2 m2 d2]] w fun e' w' => e' = .returned (.bool (dsame e d)) ∧ Chg (fun _ => False) w w' := by
  obtain ⟨W, hW⟩ : ∃ W, W = (w.alloc (.cells #[.int .i64 e.dflt, .int .i64 e.closed, .int .i64 e.fuel, .int .i64 e.stack, .slice A1 n1 c1, .slice A2 n2 c2] 68)).alloc (.cells #[.int .i64 d.dflt, .int .i64 d.closed, .int .i64 d.fuel, .int .i64 d.stack, .slice B1 m1 d1, .slice B2 m2 d2] 68) := ⟨_, rfl⟩
  have CB := hid (show Chg (fun _ => False) w W by rw [hW]; exact ((Chg.refl _ w).alloc _).alloc _)
  have k1 : W.heap[w.heap.size]? = some (.cells #[.int .i64 e.dflt, .int .i64 e.closed, .int .i64 e.fuel, .int .i64 e.stack, .slice A1 n1 c1, .slice A2 n2 c2] 68 (0, 0)) := by rw [hW]; exact blk_alloc (blk_new w _) _
  have k2 : W.heap[w.heap.size + 1]? = some (.cells #[.int .i64 d.dflt, .int .i64 d.closed, .int .i64 d.fuel, .int .i64 d.stack, .slice B1 m1 d1, .slice B2 m2 d2] 68 (0, 0)) := by
    rw [hW]
    have := blk_new (w.alloc (.cells #[.int .i64 e.dflt, .int .i64 e.closed, .int .i64 e.fuel, .int .i64 e.stack, .slice A1 n1 c1, .slice A2 n2 c2] 68)) (.cells #[.int .i64 d.dflt, .int .i64 d.closed, .int .i64 d.fuel, .int .i64 d.stack, .slice B1 m1 d1, .slice B2 m2 d2] 68)
    simpa using this
  have P1 := hid (he.2.1.chg CB.out (fun _ _ h => h))
  have P2 := hid (he.2.2.chg CB.out (fun _ _ h => h))
  have Q1 := hid (hd.2.1.chg CB.out (fun _ _ h => h))
  have Q2 := hid (hd.2.2.chg CB.out (fun _ _ h => h))
  have L1 := hid he.2.1.1
  have L2 := hid he.2.2.1
  have M1 := hid hd.2.1.1
  have M2 := hid hd.2.2.1
  have hn1 : (n1 : Int) ≤ 9223372036854775807 := by have q1 := he.2.1.2.1; have q2 := he.2.1.2.2.1; simp [maxLen] at q2; omega
  have hn2 : (n2 : Int) ≤ 9223372036854775807 := by have q1 := he.2.2.2.1; have q2 := he.2.2.2.2.1; simp [maxLen] at q2; omega
  clear he hd
  have x0 : W.cell? ⟨w.heap.size, 0, none⟩ = _ := cellAt k1 0
  have y0 : W.cell? ⟨w.heap.size + 1, 0, none⟩ = _ := cellAt k2 0
  have x1 : W.cell? ⟨w.heap.size, 1, none⟩ = _ := cellAt k1 1
  have y1 : W.cell? ⟨w.heap.size + 1, 1, none⟩ = _ := cellAt k2 1
  have x2 : W.cell? ⟨w.heap.size, 2, none⟩ = _ := cellAt k1 2
  have y2 : W.cell? ⟨w.heap.size + 1, 2, none⟩ = _ := cellAt k2 2
  have x3 : W.cell? ⟨w.heap.size, 3, none⟩ = _ := cellAt k1 3
  have y3 : W.cell? ⟨w.heap.size + 1, 3, none⟩ = _ := cellAt k2 3
  have x4 : W.cell? ⟨w.heap.size, 4, none⟩ = _ := cellAt k1 4
  have y4 : W.cell? ⟨w.heap.size + 1, 4, none⟩ = _ := cellAt k2 4
  have x5 : W.cell? ⟨w.heap.size, 5, none⟩ = _ := cellAt k1 5
  have y5 : W.cell? ⟨w.heap.size + 1, 5, none⟩ = _ := cellAt k2 5
  simp only [List.getElem?_toArray, List.getElem?_cons_zero, List.getElem?_cons_succ] at x0 y0 x1 y1 x2 y2 x3 y3 x4 y4 x5 y5
  clear k1 k2
  have HW := hid hW
  clear hW
  have X4 := hid x4
  have Y4 := hid y4
  have X5 := hid x5
  have Y5 := hid y5
  go_enter Try.func47, Try.ntmps47
  cases g0 : (e.dflt == d.dflt)
  case false =>
    have gb : (e.dflt != d.dflt) = true := by simp [bne, g0]
    have G := hid (show dsame e d = false by simp [dsame, g0])
    clear g0
    go_wp2_with fail
    go_ret
    exact ⟨by rw [G.out]; rfl, ((Chg.refl (fun _ => False) w).alloc _).alloc _⟩
  have bg0 : (e.dflt != d.dflt) = false := by simp [bne, g0]
  have Hg0 := hid g0
  clear g0
  cases g1 : (e.closed == d.closed)
  case false =>
    have gb : (e.closed != d.closed) = true := by simp [bne, g1]
    have G := hid (show dsame e d = false by simp [dsame, g1])
    clear g1
    go_wp2_with fail
    go_ret
    exact ⟨by rw [G.out]; rfl, ((Chg.refl (fun _ => False) w).alloc _).alloc _⟩
  have bg1 : (e.closed != d.closed) = false := by simp [bne, g1]
  have Hg1 := hid g1
  clear g1
  cases g2 : (e.fuel == d.fuel)
  case false =>
    have gb : (e.fuel != d.fuel) = true := by simp [bne, g2]
    have G := hid (show dsame e d = false by simp [dsame, g2])
    clear g2
    go_wp2_with fail
    go_ret
    exact ⟨by rw [G.out]; rfl, ((Chg.refl (fun _ => False) w).alloc _).alloc _⟩
  have bg2 : (e.fuel != d.fuel) = false := by simp [bne, g2]
  have Hg2 := hid g2
  clear g2
  cases g3 : (e.stack == d.stack)
  case false =>
    have gb : (e.stack != d.stack) = true := by simp [bne, g3]
    have G := hid (show dsame e d = false by simp [dsame, g3])
    clear g3
    go_wp2_with fail
    go_ret
    exact ⟨by rw [G.out]; rfl, ((Chg.refl (fun _ => False) w).alloc _).alloc _⟩
  have bg3 : (e.stack != d.stack) = false := by simp [bne, g3]
  have Hg3 := hid g3
  clear g3
  by_cases hl1 : n1 = m1
  case neg =>
    have hl1' : ((n1 : Int) != (m1 : Int)) = true := by simp; omega
    have G := hid (show dsame e d = false by unfold dsame; rw [decide_eq_false (fun h => hl1 (by rw [L1.out, M1.out, h]) : ¬ e.put = d.put)]; simp)
    clear hl1
    go_wp2_with fail
    go_ret
    exact ⟨by rw [G.out]; rfl, ((Chg.refl (fun _ => False) w).alloc _).alloc _⟩
  by_cases hl2 : n2 = m2
  case neg =>
    have hl2' : ((n2 : Int) != (m2 : Int)) = true := by simp; omega
    subst hl1
    have G := hid (show dsame e d = false by unfold dsame; rw [decide_eq_false (fun h => hl2 (by rw [L2.out, M2.out, h]) : ¬ e.drop = d.drop)]; simp)
    clear hl2
    go_wp2_with fail
    go_ret
    exact ⟨by rw [G.out]; rfl, ((Chg.refl (fun _ => False) w).alloc _).alloc _⟩
  subst hl1 hl2
  have GE := hid (show dsame e d = (decide (e.put = d.put) && decide (e.drop = d.drop)) by unfold dsame; rw [Hg0.out, Hg1.out, Hg2.out, Hg3.out]; rfl)
  clear x0 y0 x1 y1 x2 y2 x3 y3 x4 y4 x5 y5
  go_wp2_with fail
  rw [← HW.out]
  clear HW bg0 bg1 bg2 bg3
  go_loopw [5] (fun i wr => ∃ k : Nat, k ≤ n1 ∧ i = .int .i64 k ∧ e.put.take k = d.put.take k ∧ Chg (fun _ => False) W wr) (fun i _ => n1 - (intOf i).toNat)
  case atStart => exact ⟨0, Nat.zero_le _, rfl, rfl, Chg.refl _ _⟩
  case round =>
    obtain ⟨k, hk, rfl, he, hC⟩ := hrel
    have HE := hid he
    have HC := hid hC
    have z4 := hC.cell X4.out (fun h => h)
    have t4 := hC.cell Y4.out (fun h => h)
    clear he
    by_cases hlt : k < n1
    · obtain ⟨x, hx⟩ : ∃ x, e.put[k]? = some x := ⟨_, List.getElem?_eq_getElem (by have := L1.out; omega)⟩
      obtain ⟨y, hy⟩ : ∃ y, d.put[k]? = some y := ⟨_, List.getElem?_eq_getElem (by have := M1.out; omega)⟩
      obtain ⟨a, cs, ha, haR, hK, hcs⟩ := P1.out.get (by decide) hx
      obtain ⟨b, ds, hb, hbR, hK', hds⟩ := Q1.out.get (by decide) hy
      obtain ⟨rfl, hrw⟩ := rule_open hK
      obtain ⟨rfl, hrw'⟩ := rule_open hK'
      clear hrw hrw'
      subst ha hb
      have hcs2 : ∀ j u, (ruleCells x)[j]? = some u → wr.cell? (a.add (k * 5 + j)) = some u := fun j u hj => hC.cell (hcs j u hj) (fun h => h)
      have hds2 : ∀ j u, (ruleCells y)[j]? = some u → wr.cell? (b.add (k * 5 + j)) = some u := fun j u hj => hC.cell (hds j u hj) (fun h => h)
      have x0 := elem_cell0 hcs2 _ rfl
      have y0 := elem_cell0 hds2 _ rfl
      have x1 := elem_cell hcs2 0 _ rfl
      have y1 := elem_cell hds2 0 _ rfl
      have x2 := elem_cell hcs2 1 _ rfl
      have y2 := elem_cell hds2 1 _ rfl
      have x3 := elem_cell hcs2 2 _ rfl
      have y3 := elem_cell hds2 2 _ rfl
      have x4 := elem_cell hcs2 3 _ rfl
      have y4 := elem_cell hds2 3 _ rfl
      have TX := hid (show e.put.take (k + 1) = e.put.take k ++ [x] by rw [List.take_add_one, hx]; rfl)
      have TY := hid (show d.put.take (k + 1) = d.put.take k ++ [y] by rw [List.take_add_one, hy]; rfl)
      have NE := hid (show x ≠ y → e.put ≠ d.put from fun h e' => h (by rw [e'] at hx; rw [hx] at hy; injection hy))
      have e1 := fun w => refrule_neq x y w
      clear hcs hds hK hK' hcs2 hds2 hx hy haR hbR hC
      have hlt2 : (k : Int) < (n1 : Int) := by omega
      go_wp2_with fail
      go_quiet (fail)
      clear x0 y0 x1 x2 x3 x4 y1 y2 y3 y4 e1 z4 t4
      have C2 := hid (HC.out.drewN nq)
      by_cases hxy : x = y
      · have HN := hid (show e.put.take (k + 1) = d.put.take (k + 1) by rw [TX.out, TY.out, HE.out, hxy])
        rw [decide_eq_true hxy]
        clear hxy
        go_wp2_with fail
        go_roundw
        case measure => simp [intOf]; omega
        case rel => first | exact ⟨k + 1, hlt, by go_num, HN.out, C2.out⟩ | ((repeat apply Exists.intro); exact ⟨⟨k + 1, hlt, by go_num, HN.out, C2.out⟩, rfl⟩)
      · have HN := hid (NE.out hxy)
        rw [decide_eq_false hxy]
        clear hxy
        go_wp2_with fail
        go_ret
        exact ⟨by rw [GE.out, decide_eq_false HN.out]; rfl, CB.out.trans C2.out (fun _ h _ => h)⟩
    · have hkn : ¬ (k : Int) < (n1 : Int) := by omega
      clear hC
      have EP := hid (show e.put = d.put from by
        have e' := HE.out
        rwa [List.take_of_length_le (by have := L1.out; omega), List.take_of_length_le (by have := M1.out; omega)] at e')
      go_wp2_with fail
      obtain ⟨W1, hW1⟩ : ∃ W1, W1 = wr := ⟨_, rfl⟩
      have HC1 := hid (show Chg (fun _ => False) W W1 by rw [hW1]; exact HC.out)
      rw [← hW1]
      clear hW1 HC z4 t4 HE
      go_loopw [6] (fun i wr => ∃ j : Nat, j ≤ n2 ∧ i = .int .i64 j ∧ e.drop.take j = d.drop.take j ∧ Chg (fun _ => False) W wr) (fun i _ => n2 - (intOf i).toNat)
      case atStart => exact ⟨0, Nat.zero_le _, rfl, rfl, HC1.out⟩
      case round =>
        obtain ⟨j, hj, rfl, he, hC⟩ := hrel
        have HE := hid he
        have HC := hid hC
        have z5 := hC.cell X5.out (fun h => h)
        have t5 := hC.cell Y5.out (fun h => h)
        clear he
        by_cases hlt : j < n2
        · obtain ⟨x, hx⟩ : ∃ x, e.drop[j]? = some x := ⟨_, List.getElem?_eq_getElem (by have := L2.out; omega)⟩
          obtain ⟨y, hy⟩ : ∃ y, d.drop[j]? = some y := ⟨_, List.getElem?_eq_getElem (by have := M2.out; omega)⟩
          obtain ⟨a, cs, ha, haR, hK, hcs⟩ := P2.out.get (by decide) hx
          obtain ⟨b, ds, hb, hbR, hK', hds⟩ := Q2.out.get (by decide) hy
          obtain ⟨rfl, hrw⟩ := (id hK)
          obtain ⟨rfl, hrw'⟩ := (id hK')
          clear hrw hrw'
          subst ha hb
          have hcs2 : ∀ i u, [Value.int .i64 x][i]? = some u → wr.cell? (a.add (j * 1 + i)) = some u := fun i u hi => hC.cell (hcs i u hi) (fun h => h)
          have hds2 : ∀ i u, [Value.int .i64 y][i]? = some u → wr.cell? (b.add (j * 1 + i)) = some u := fun i u hi => hC.cell (hds i u hi) (fun h => h)
          have x0 := elem_cell0 hcs2 _ rfl
          have y0 := elem_cell0 hds2 _ rfl
          rw [Nat.mul_one] at x0 y0
          have TX := hid (show e.drop.take (j + 1) = e.drop.take j ++ [x] by rw [List.take_add_one, hx]; rfl)
          have TY := hid (show d.drop.take (j + 1) = d.drop.take j ++ [y] by rw [List.take_add_one, hy]; rfl)
          have NE := hid (show x ≠ y → e.drop ≠ d.drop from fun h e' => h (by rw [e'] at hx; rw [hx] at hy; injection hy))
          clear hcs hds hK hK' hcs2 hds2 hx hy haR hbR hC
          have hlt2 : (j : Int) < (n2 : Int) := by omega
          go_wp2_with fail
          go_quiet (fail)
          clear x0 y0 z5 t5
          have C2 := hid (HC.out.drewN nq)
          by_cases hxy : x = y
          · have HN := hid (show e.drop.take (j + 1) = d.drop.take (j + 1) by rw [TX.out, TY.out, HE.out, hxy])
            obtain rfl := hxy
            have hb : (x != x) = false := by simp
            go_wp2_with fail
            go_roundw
            case measure => simp [intOf]; omega
            case rel => first | exact ⟨j + 1, hlt, by go_num, HN.out, C2.out⟩ | ((repeat apply Exists.intro); exact ⟨⟨j + 1, hlt, by go_num, HN.out, C2.out⟩, rfl⟩)
          · have HN := hid (NE.out hxy)
            have hb : (x != y) = true := by simpa using hxy
            clear hxy
            go_wp2_with fail
            go_ret
            exact ⟨by rw [GE.out, decide_eq_false HN.out, Bool.and_false]; rfl, CB.out.trans C2.out (fun _ h _ => h)⟩
        · have hkn : ¬ (j : Int) < (n2 : Int) := by omega
          clear hC
          go_wp2_with fail
          go_ret
          have e' := HE.out
          rw [List.take_of_length_le (by have := L2.out; omega), List.take_of_length_le (by have := M2.out; omega)] at e'
          exact ⟨by rw [GE.out, decide_eq_true EP.out, decide_eq_true e']; rfl, CB.out.trans HC.out (fun _ h _ => h)⟩

set_option maxHeartbeats 4000000 in
set_option maxRecDepth 100000 in
theorem refSame_any {R R' : Nat → Prop} {xs ys : List Entry} {A A' : Option Addr} {n c n' c' : Nat} {w : World} (h : Ty.At entryK w R A n c xs) (h' : Ty.At entryK w R' A' n' c' ys) :
    Calls Try.prog 29 #[.slice A n c, .slice A' n' c'] w fun e w' => e = .returned (.bool (decide (xs = ys))) ∧ Chg (fun _ => False) w w' := by
  have HX := hid h
  have HY := hid h'
  have LX := hid h.1
  have LY := hid h'.1
  have hn : (n : Int) ≤ 9223372036854775807 := by have q1 := h.2.1; have q2 := h.2.2.1; simp [maxLen] at q2; omega
  clear h h'
  by_cases hnm : n = n'
  case neg =>
    have HN := hid (show ¬ xs = ys from fun e => hnm (by rw [LX.out, LY.out, e]))
    have hnm2 : ¬ (n : Int) = (n' : Int) := by omega
    clear hnm
    go_enter Try.func29, Try.ntmps29
    go_wp2_with fail
    go_ret
    exact ⟨by rw [decide_eq_false HN.out]; rfl, Chg.refl _ _⟩
  subst hnm
  go_enter Try.func29, Try.ntmps29
  go_wp2_with fail
  go_loopw [5] (fun i wr => ∃ k : Nat, k ≤ n ∧ i = .int .i64 k ∧ xs.take k = ys.take k ∧ Chg (fun _ => False) w wr) (fun i _ => n - (intOf i).toNat)
  case atStart => exact ⟨0, Nat.zero_le _, rfl, rfl, Chg.refl _ _⟩
  case round =>
    obtain ⟨k, hk, rfl, he, hC⟩ := hrel
    have HE := hid he
    have HC := hid hC
    clear he
    by_cases hlt : k < n
    · obtain ⟨x, hx⟩ : ∃ x, xs[k]? = some x := ⟨_, List.getElem?_eq_getElem (by have := LX.out; omega)⟩
      obtain ⟨y, hy⟩ : ∃ y, ys[k]? = some y := ⟨_, List.getElem?_eq_getElem (by have := LY.out; omega)⟩
      obtain ⟨a, cs, ha, haR, hK, hcs⟩ := HX.out.get (by decide) hx
      obtain ⟨b, ds, hb, hbR, hK', hds⟩ := HY.out.get (by decide) hy
      obtain ⟨E1, p1, r1, E2, p2, r2, rfl, hrw⟩ := entry_open (id hK)
      obtain ⟨D1, q1, s1, D2, q2, s2, rfl, hrw'⟩ := entry_open (id hK')
      have HRX := hid (hrw.chg hC (fun _ _ h => h))
      have HRY := hid (hrw'.chg hC (fun _ _ h => h))
      subst ha hb
      have hcs2 : ∀ j u, (entryCells x E1 p1 r1 E2 p2 r2)[j]? = some u → wr.cell? (a.add (k * 9 + j)) = some u := fun j u hj => hC.cell (hcs j u hj) (fun h => h)
      have hds2 : ∀ j u, (entryCells y D1 q1 s1 D2 q2 s2)[j]? = some u → wr.cell? (b.add (k * 9 + j)) = some u := fun j u hj => hC.cell (hds j u hj) (fun h => h)
      have x0 := elem_cell0 hcs2 _ rfl
      have y0 := elem_cell0 hds2 _ rfl
      have x1 := elem_cell hcs2 0 _ rfl
      have y1 := elem_cell hds2 0 _ rfl
      have x2 := elem_cell hcs2 1 _ rfl
      have y2 := elem_cell hds2 1 _ rfl
      have x3 := elem_cell hcs2 2 _ rfl
      have y3 := elem_cell hds2 2 _ rfl
      have x4 := elem_cell hcs2 3 _ rfl
      have y4 := elem_cell hds2 3 _ rfl
      have x5 := elem_cell hcs2 4 _ rfl
      have y5 := elem_cell hds2 4 _ rfl
      have x6 := elem_cell hcs2 5 _ rfl
      have y6 := elem_cell hds2 5 _ rfl
      have x7 := elem_cell hcs2 6 _ rfl
      have y7 := elem_cell hds2 6 _ rfl
      have x8 := elem_cell hcs2 7 _ rfl
      have y8 := elem_cell hds2 7 _ rfl
      have TX := hid (show xs.take (k + 1) = xs.take k ++ [x] by rw [List.take_add_one, hx]; rfl)
      have TY := hid (show ys.take (k + 1) = ys.take k ++ [y] by rw [List.take_add_one, hy]; rfl)
      have NE := hid (show x ≠ y → xs ≠ ys from fun h e => h (by subst e; rw [hx] at hy; injection hy))
      clear hcs hds hK hK' hcs2 hds2 hx hy haR hbR hrw hrw' hC
      have hlt2 : (k : Int) < (n : Int) := by omega
      have HX9 := hid (And.intro x0 (And.intro x1 x2))
      cases g0 : (x.view == y.view)
      case false =>
        have gb : (x.view != y.view) = true := by simp [bne, g0]
        have HN := hid (NE.out (fun h => by rw [h] at g0; simp at g0))
        clear g0
        go_wp2_with fail
        go_quiet (fail)
        go_wp2_with fail
        go_ret
        exact ⟨by rw [decide_eq_false HN.out]; rfl, HC.out.drewN _⟩
      have bg0 : (x.view != y.view) = false := by simp [bne, g0]
      have Hg0 := hid g0
      clear g0
      cases g1 : (x.client == y.client)
      case false =>
        have gb : (x.client != y.client) = true := by simp [bne, g1]
        have HN := hid (NE.out (fun h => by rw [h] at g1; simp at g1))
        clear g1
        go_wp2_with fail
        go_quiet (fail)
        go_wp2_with fail
        go_ret
        exact ⟨by rw [decide_eq_false HN.out]; rfl, HC.out.drewN _⟩
      have bg1 : (x.client != y.client) = false := by simp [bne, g1]
      have Hg1 := hid g1
      clear g1
      cases g2 : (x.request == y.request)
      case false =>
        have gb : (x.request != y.request) = true := by simp [bne, g2]
        have HN := hid (NE.out (fun h => by rw [h] at g2; simp at g2))
        clear g2
        go_wp2_with fail
        go_quiet (fail)
        go_wp2_with fail
        go_ret
        exact ⟨by rw [decide_eq_false HN.out]; rfl, HC.out.drewN _⟩
      have bg2 : (x.request != y.request) = false := by simp [bne, g2]
      have GE := hid (show decide (x = y) = dsame x y by rw [entry_dsame, Hg0.out, Hg1.out, g2]; rfl)
      clear g2
      have ux0 : ∀ wx, Chg (fun _ => False) wr wx → wx.cell? (a.add (k * 9)) = _ := fun wx hx => hx.cell x0 (fun h => h)
      have uy0 : ∀ wx, Chg (fun _ => False) wr wx → wx.cell? (b.add (k * 9)) = _ := fun wx hx => hx.cell y0 (fun h => h)
      have ux1 : ∀ wx, Chg (fun _ => False) wr wx → wx.cell? ⟨(a.add (k * 9)).block, (a.add (k * 9)).off + 1, none⟩ = _ := fun wx hx => hx.cell x1 (fun h => h)
      have uy1 : ∀ wx, Chg (fun _ => False) wr wx → wx.cell? ⟨(b.add (k * 9)).block, (b.add (k * 9)).off + 1, none⟩ = _ := fun wx hx => hx.cell y1 (fun h => h)
      have ux2 : ∀ wx, Chg (fun _ => False) wr wx → wx.cell? ⟨(a.add (k * 9)).block, (a.add (k * 9)).off + 2, none⟩ = _ := fun wx hx => hx.cell x2 (fun h => h)
      have uy2 : ∀ wx, Chg (fun _ => False) wr wx → wx.cell? ⟨(b.add (k * 9)).block, (b.add (k * 9)).off + 2, none⟩ = _ := fun wx hx => hx.cell y2 (fun h => h)
      have ux3 : ∀ wx, Chg (fun _ => False) wr wx → wx.cell? ⟨(a.add (k * 9)).block, (a.add (k * 9)).off + 3, none⟩ = _ := fun wx hx => hx.cell x3 (fun h => h)
      have uy3 : ∀ wx, Chg (fun _ => False) wr wx → wx.cell? ⟨(b.add (k * 9)).block, (b.add (k * 9)).off + 3, none⟩ = _ := fun wx hx => hx.cell y3 (fun h => h)
      have ux4 : ∀ wx, Chg (fun _ => False) wr wx → wx.cell? ⟨(a.add (k * 9)).block, (a.add (k * 9)).off + 4, none⟩ = _ := fun wx hx => hx.cell x4 (fun h => h)
      have uy4 : ∀ wx, Chg (fun _ => False) wr wx → wx.cell? ⟨(b.add (k * 9)).block, (b.add (k * 9)).off + 4, none⟩ = _ := fun wx hx => hx.cell y4 (fun h => h)
      have ux5 : ∀ wx, Chg (fun _ => False) wr wx → wx.cell? ⟨(a.add (k * 9)).block, (a.add (k * 9)).off + 5, none⟩ = _ := fun wx hx => hx.cell x5 (fun h => h)
      have uy5 : ∀ wx, Chg (fun _ => False) wr wx → wx.cell? ⟨(b.add (k * 9)).block, (b.add (k * 9)).off + 5, none⟩ = _ := fun wx hx => hx.cell y5 (fun h => h)
      have ux6 : ∀ wx, Chg (fun _ => False) wr wx → wx.cell? ⟨(a.add (k * 9)).block, (a.add (k * 9)).off + 6, none⟩ = _ := fun wx hx => hx.cell x6 (fun h => h)
      have uy6 : ∀ wx, Chg (fun _ => False) wr wx → wx.cell? ⟨(b.add (k * 9)).block, (b.add (k * 9)).off + 6, none⟩ = _ := fun wx hx => hx.cell y6 (fun h => h)
      have ux7 : ∀ wx, Chg (fun _ => False) wr wx → wx.cell? ⟨(a.add (k * 9)).block, (a.add (k * 9)).off + 7, none⟩ = _ := fun wx hx => hx.cell x7 (fun h => h)
      have uy7 : ∀ wx, Chg (fun _ => False) wr wx → wx.cell? ⟨(b.add (k * 9)).block, (b.add (k * 9)).off + 7, none⟩ = _ := fun wx hx => hx.cell y7 (fun h => h)
      have ux8 : ∀ wx, Chg (fun _ => False) wr wx → wx.cell? ⟨(a.add (k * 9)).block, (a.add (k * 9)).off + 8, none⟩ = _ := fun wx hx => hx.cell x8 (fun h => h)
      have uy8 : ∀ wx, Chg (fun _ => False) wr wx → wx.cell? ⟨(b.add (k * 9)).block, (b.add (k * 9)).off + 8, none⟩ = _ := fun wx hx => hx.cell y8 (fun h => h)
      go_wp2_with fail
      refine wpB_start (fun wx : World => Chg (fun _ => False) wr wx) (by kernel_rfl) ?_
      have hHeld : (fun wx : World => Chg (fun _ => False) wr wx) _ := (by first | assumption | exact Chg.drew (Chg.refl _ _) | (show _ ∧ _; refine ⟨?_, ?_⟩ <;> assumption) | (first | assumption | exact (Chg.drew (Chg.refl _ _)).trans h2 (fun _ h _ => h) | exact hHeld.trans h2 (fun _ h _ => h)))
      -- 0: t17 := move t0 : 28
      refine wpB_take (i := 0) (v := ?_) (get_of_drop rfl) (by kernel_rfl) (by kernel_rfl) (by kernel_rfl) (by kernel_rfl) (fun _ _ _ h => h) (Or.inl ⟨by rfl, ?_⟩) hHeld ?_
      rotate_left
      · (intro w hSw; (try dsimp only at hSw); go_simp <;> with_reducible rfl)
      try simp only [Act.put, List.setIfInBounds_toArray, List.set_cons_zero, List.set_cons_succ]
      -- 1: t18 := move t5 : 3
      refine wpB_take (i := 1) (v := ?_) (get_of_drop rfl) (by kernel_rfl) (by kernel_rfl) (by kernel_rfl) (by kernel_rfl) (fun _ _ _ h => h) (Or.inl ⟨by rfl, ?_⟩) hHeld ?_
      rotate_left
      · (intro w hSw; (try dsimp only at hSw); go_simp <;> with_reducible rfl)
      try simp only [Act.put, List.setIfInBounds_toArray, List.set_cons_zero, List.set_cons_succ]
      -- 2: t19 := indexAddr 28 t17 t18 : 0
      refine wpB_take (i := 2) (v := ?_) (get_of_drop rfl) (by kernel_rfl) (by kernel_rfl) (by kernel_rfl) (by kernel_rfl) (fun _ _ _ h => h) (Or.inl ⟨by rfl, ?_⟩) hHeld ?_
      rotate_left
      · (intro w hSw; (try dsimp only at hSw); go_simp <;> with_reducible rfl)
      try simp only [Act.put, List.setIfInBounds_toArray, List.set_cons_zero, List.set_cons_succ]
      -- 3: t20 := fieldAddr 70 t19 0 : 0
      refine wpB_take (i := 3) (v := ?_) (get_of_drop rfl) (by kernel_rfl) (by kernel_rfl) (by kernel_rfl) (by kernel_rfl) (fun _ _ _ h => h) (Or.inl ⟨by rfl, ?_⟩) hHeld ?_
      rotate_left
      · (intro w hSw; (try dsimp only at hSw); go_simp <;> with_reducible rfl)
      try simp only [Act.put, List.setIfInBounds_toArray, List.set_cons_zero, List.set_cons_succ]
      -- 4: t21 := load 3 t20 : 3
      refine wpB_take (i := 4) (v := ?_) (get_of_drop rfl) (by kernel_rfl) (by kernel_rfl) (by kernel_rfl) (by kernel_rfl) (fun _ _ _ h => h) (Or.inl ⟨by rfl, ?_⟩) hHeld ?_
      rotate_left
      · (intro w hSw; (try dsimp only at hSw); go_simp <;> with_reducible rfl)
      try simp only [Act.put, List.setIfInBounds_toArray, List.set_cons_zero, List.set_cons_succ]
      -- 5: t22 := move t1 : 28
      refine wpB_take (i := 5) (v := ?_) (get_of_drop rfl) (by kernel_rfl) (by kernel_rfl) (by kernel_rfl) (by kernel_rfl) (fun _ _ _ h => h) (Or.inl ⟨by rfl, ?_⟩) hHeld ?_
      rotate_left
      · (intro w hSw; (try dsimp only at hSw); go_simp <;> with_reducible rfl)
      try simp only [Act.put, List.setIfInBounds_toArray, List.set_cons_zero, List.set_cons_succ]
      -- 6: t23 := move t5 : 3
      refine wpB_take (i := 6) (v := ?_) (get_of_drop rfl) (by kernel_rfl) (by kernel_rfl) (by kernel_rfl) (by kernel_rfl) (fun _ _ _ h => h) (Or.inl ⟨by rfl, ?_⟩) hHeld ?_
      rotate_left
      · (intro w hSw; (try dsimp only at hSw); go_simp <;> with_reducible rfl)
      try simp only [Act.put, List.setIfInBounds_toArray, List.set_cons_zero, List.set_cons_succ]
      -- 7: t24 := indexAddr 28 t22 t23 : 0
      refine wpB_take (i := 7) (v := ?_) (get_of_drop rfl) (by kernel_rfl) (by kernel_rfl) (by kernel_rfl) (by kernel_rfl) (fun _ _ _ h => h) (Or.inl ⟨by rfl, ?_⟩) hHeld ?_
      rotate_left
      · (intro w hSw; (try dsimp only at hSw); go_simp <;> with_reducible rfl)
      try simp only [Act.put, List.setIfInBounds_toArray, List.set_cons_zero, List.set_cons_succ]
      -- 8: t25 := fieldAddr 70 t24 0 : 0
      refine wpB_take (i := 8) (v := ?_) (get_of_drop rfl) (by kernel_rfl) (by kernel_rfl) (by kernel_rfl) (by kernel_rfl) (fun _ _ _ h => h) (Or.inl ⟨by rfl, ?_⟩) hHeld ?_
      rotate_left
      · (intro w hSw; (try dsimp only at hSw); go_simp <;> with_reducible rfl)
      try simp only [Act.put, List.setIfInBounds_toArray, List.set_cons_zero, List.set_cons_succ]
      -- 9: t26 := load 3 t25 : 3
      refine wpB_take (i := 9) (v := ?_) (get_of_drop rfl) (by kernel_rfl) (by kernel_rfl) (by kernel_rfl) (by kernel_rfl) (fun _ _ _ h => h) (Or.inl ⟨by rfl, ?_⟩) hHeld ?_
      rotate_left
      · (intro w hSw; (try dsimp only at hSw); go_simp <;> with_reducible rfl)
      try simp only [Act.put, List.setIfInBounds_toArray, List.set_cons_zero, List.set_cons_succ]
      -- 10: t27 := binOp BinOp.neq 3 t21 t26 3 : 4
      refine wpB_take (i := 10) (v := ?_) (get_of_drop rfl) (by kernel_rfl) (by kernel_rfl) (by kernel_rfl) (by kernel_rfl) (fun _ _ _ h => h) (Or.inl ⟨by rfl, ?_⟩) hHeld ?_
      rotate_left
      · (intro w hSw; (try dsimp only at hSw); go_simp <;> with_reducible rfl)
      try simp only [Act.put, List.setIfInBounds_toArray, List.set_cons_zero, List.set_cons_succ]
      -- 11: t28 := move t27 : 4
      refine wpB_take (i := 11) (v := ?_) (get_of_drop rfl) (by kernel_rfl) (by kernel_rfl) (by kernel_rfl) (by kernel_rfl) (fun _ _ _ h => h) (Or.inl ⟨by rfl, ?_⟩) hHeld ?_
      rotate_left
      · (intro w hSw; (try dsimp only at hSw); go_simp <;> with_reducible rfl)
      try simp only [Act.put, List.setIfInBounds_toArray, List.set_cons_zero, List.set_cons_succ]
      -- 12: t29 := move t0 : 28   [if ⟨11, false⟩]
      refine wpB_take (i := 12) (v := ?_) (get_of_drop rfl) (by kernel_rfl) (by kernel_rfl) (by kernel_rfl) (by kernel_rfl) (fun _ _ _ h => h) (Or.inl ⟨by rfl, ?_⟩) hHeld ?_
      rotate_left
      · (intro w hSw; (try dsimp only at hSw); go_simp <;> with_reducible rfl)
      try simp only [Act.put, List.setIfInBounds_toArray, List.set_cons_zero, List.set_cons_succ]
      -- 13: t30 := move t5 : 3   [if ⟨11, false⟩]
      refine wpB_take (i := 13) (v := ?_) (get_of_drop rfl) (by kernel_rfl) (by kernel_rfl) (by kernel_rfl) (by kernel_rfl) (fun _ _ _ h => h) (Or.inl ⟨by rfl, ?_⟩) hHeld ?_
      rotate_left
      · (intro w hSw; (try dsimp only at hSw); go_simp <;> with_reducible rfl)
      try simp only [Act.put, List.setIfInBounds_toArray, List.set_cons_zero, List.set_cons_succ]
      -- 14: t31 := indexAddr 28 t29 t30 : 0   [if ⟨11, false⟩]
      refine wpB_take (i := 14) (v := ?_) (get_of_drop rfl) (by kernel_rfl) (by kernel_rfl) (by kernel_rfl) (by kernel_rfl) (fun _ _ _ h => h) (Or.inl ⟨by rfl, ?_⟩) hHeld ?_
      rotate_left
      · (intro w hSw; (try dsimp only at hSw); go_simp <;> with_reducible rfl)
      try simp only [Act.put, List.setIfInBounds_toArray, List.set_cons_zero, List.set_cons_succ]
      -- 15: t32 := fieldAddr 70 t31 1 : 0   [if ⟨11, false⟩]
      refine wpB_take (i := 15) (v := ?_) (get_of_drop rfl) (by kernel_rfl) (by kernel_rfl) (by kernel_rfl) (by kernel_rfl) (fun _ _ _ h => h) (Or.inl ⟨by rfl, ?_⟩) hHeld ?_
      rotate_left
      · (intro w hSw; (try dsimp only at hSw); go_simp <;> with_reducible rfl)
      try simp only [Act.put, List.setIfInBounds_toArray, List.set_cons_zero, List.set_cons_succ]
      -- 16: t33 := load 3 t32 : 3   [if ⟨11, false⟩]
      refine wpB_take (i := 16) (v := ?_) (get_of_drop rfl) (by kernel_rfl) (by kernel_rfl) (by kernel_rfl) (by kernel_rfl) (fun _ _ _ h => h) (Or.inl ⟨by rfl, ?_⟩) hHeld ?_
      rotate_left
      · (intro w hSw; (try dsimp only at hSw); go_simp <;> with_reducible rfl)
      try simp only [Act.put, List.setIfInBounds_toArray, List.set_cons_zero, List.set_cons_succ]
      -- 17: t34 := move t1 : 28   [if ⟨11, false⟩]
      refine wpB_take (i := 17) (v := ?_) (get_of_drop rfl) (by kernel_rfl) (by kernel_rfl) (by kernel_rfl) (by kernel_rfl) (fun _ _ _ h => h) (Or.inl ⟨by rfl, ?_⟩) hHeld ?_
      rotate_left
      · (intro w hSw; (try dsimp only at hSw); go_simp <;> with_reducible rfl)
      try simp only [Act.put, List.setIfInBounds_toArray, List.set_cons_zero, List.set_cons_succ]
      -- 18: t35 := move t5 : 3   [if ⟨11, false⟩]
      refine wpB_take (i := 18) (v := ?_) (get_of_drop rfl) (by kernel_rfl) (by kernel_rfl) (by kernel_rfl) (by kernel_rfl) (fun _ _ _ h => h) (Or.inl ⟨by rfl, ?_⟩) hHeld ?_
      rotate_left
      · (intro w hSw; (try dsimp only at hSw); go_simp <;> with_reducible rfl)
      try simp only [Act.put, List.setIfInBounds_toArray, List.set_cons_zero, List.set_cons_succ]
      -- 19: t36 := indexAddr 28 t34 t35 : 0   [if ⟨11, false⟩]
      refine wpB_take (i := 19) (v := ?_) (get_of_drop rfl) (by kernel_rfl) (by kernel_rfl) (by kernel_rfl) (by kernel_rfl) (fun _ _ _ h => h) (Or.inl ⟨by rfl, ?_⟩) hHeld ?_
      rotate_left
      · (intro w hSw; (try dsimp only at hSw); go_simp <;> with_reducible rfl)
      try simp only [Act.put, List.setIfInBounds_toArray, List.set_cons_zero, List.set_cons_succ]
      -- 20: t37 := fieldAddr 70 t36 1 : 0   [if ⟨11, false⟩]
      refine wpB_take (i := 20) (v := ?_) (get_of_drop rfl) (by kernel_rfl) (by kernel_rfl) (by kernel_rfl) (by kernel_rfl) (fun _ _ _ h => h) (Or.inl ⟨by rfl, ?_⟩) hHeld ?_
      rotate_left
      · (intro w hSw; (try dsimp only at hSw); go_simp <;> with_reducible rfl)
      try simp only [Act.put, List.setIfInBounds_toArray, List.set_cons_zero, List.set_cons_succ]
      -- 21: t38 := load 3 t37 : 3   [if ⟨11, false⟩]
      refine wpB_take (i := 21) (v := ?_) (get_of_drop rfl) (by kernel_rfl) (by kernel_rfl) (by kernel_rfl) (by kernel_rfl) (fun _ _ _ h => h) (Or.inl ⟨by rfl, ?_⟩) hHeld ?_
      rotate_left
      · (intro w hSw; (try dsimp only at hSw); go_simp <;> with_reducible rfl)
      try simp only [Act.put, List.setIfInBounds_toArray, List.set_cons_zero, List.set_cons_succ]
      -- 22: t39 := binOp BinOp.neq 3 t33 t38 3 : 4   [if ⟨11, false⟩]
      refine wpB_take (i := 22) (v := ?_) (get_of_drop rfl) (by kernel_rfl) (by kernel_rfl) (by kernel_rfl) (by kernel_rfl) (fun _ _ _ h => h) (Or.inl ⟨by rfl, ?_⟩) hHeld ?_
      rotate_left
      · (intro w hSw; (try dsimp only at hSw); go_simp <;> with_reducible rfl)
      try simp only [Act.put, List.setIfInBounds_toArray, List.set_cons_zero, List.set_cons_succ]
      -- 23: t40 := pick t28 #true t39 : 4
      refine wpB_take (i := 23) (v := ?_) (get_of_drop rfl) (by kernel_rfl) (by kernel_rfl) (by kernel_rfl) (by kernel_rfl) (fun _ _ _ h => h) (Or.inl ⟨by rfl, ?_⟩) hHeld ?_
      rotate_left
      · (intro w hSw; (try dsimp only at hSw); go_simp <;> with_reducible rfl)
      try simp only [Act.put, List.setIfInBounds_toArray, List.set_cons_zero, List.set_cons_succ]
      -- 24: t41 := move t40 : 4
      refine wpB_take (i := 24) (v := ?_) (get_of_drop rfl) (by kernel_rfl) (by kernel_rfl) (by kernel_rfl) (by kernel_rfl) (fun _ _ _ h => h) (Or.inl ⟨by rfl, ?_⟩) hHeld ?_
      rotate_left
      · (intro w hSw; (try dsimp only at hSw); go_simp <;> with_reducible rfl)
      try simp only [Act.put, List.setIfInBounds_toArray, List.set_cons_zero, List.set_cons_succ]
      -- 25: t42 := move t0 : 28   [if ⟨24, false⟩]
      refine wpB_take (i := 25) (v := ?_) (get_of_drop rfl) (by kernel_rfl) (by kernel_rfl) (by kernel_rfl) (by kernel_rfl) (fun _ _ _ h => h) (Or.inl ⟨by rfl, ?_⟩) hHeld ?_
      rotate_left
      · (intro w hSw; (try dsimp only at hSw); go_simp <;> with_reducible rfl)
      try simp only [Act.put, List.setIfInBounds_toArray, List.set_cons_zero, List.set_cons_succ]
      -- 26: t43 := move t5 : 3   [if ⟨24, false⟩]
      refine wpB_take (i := 26) (v := ?_) (get_of_drop rfl) (by kernel_rfl) (by kernel_rfl) (by kernel_rfl) (by kernel_rfl) (fun _ _ _ h => h) (Or.inl ⟨by rfl, ?_⟩) hHeld ?_
      rotate_left
      · (intro w hSw; (try dsimp only at hSw); go_simp <;> with_reducible rfl)
      try simp only [Act.put, List.setIfInBounds_toArray, List.set_cons_zero, List.set_cons_succ]
      -- 27: t44 := indexAddr 28 t42 t43 : 0   [if ⟨24, false⟩]
      refine wpB_take (i := 27) (v := ?_) (get_of_drop rfl) (by kernel_rfl) (by kernel_rfl) (by kernel_rfl) (by kernel_rfl) (fun _ _ _ h => h) (Or.inl ⟨by rfl, ?_⟩) hHeld ?_
      rotate_left
      · (intro w hSw; (try dsimp only at hSw); go_simp <;> with_reducible rfl)
      try simp only [Act.put, List.setIfInBounds_toArray, List.set_cons_zero, List.set_cons_succ]
      -- 28: t45 := fieldAddr 70 t44 2 : 0   [if ⟨24, false⟩]
      refine wpB_take (i := 28) (v := ?_) (get_of_drop rfl) (by kernel_rfl) (by kernel_rfl) (by kernel_rfl) (by kernel_rfl) (fun _ _ _ h => h) (Or.inl ⟨by rfl, ?_⟩) hHeld ?_
      rotate_left
      · (intro w hSw; (try dsimp only at hSw); go_simp <;> with_reducible rfl)
      try simp only [Act.put, List.setIfInBounds_toArray, List.set_cons_zero, List.set_cons_succ]
      -- 29: t46 := load 3 t45 : 3   [if ⟨24, false⟩]
      refine wpB_take (i := 29) (v := ?_) (get_of_drop rfl) (by kernel_rfl) (by kernel_rfl) (by kernel_rfl) (by kernel_rfl) (fun _ _ _ h => h) (Or.inl ⟨by rfl, ?_⟩) hHeld ?_
      rotate_left
      · (intro w hSw; (try dsimp only at hSw); go_simp <;> with_reducible rfl)
      try simp only [Act.put, List.setIfInBounds_toArray, List.set_cons_zero, List.set_cons_succ]
      -- 30: t47 := move t1 : 28   [if ⟨24, false⟩]
      refine wpB_take (i := 30) (v := ?_) (get_of_drop rfl) (by kernel_rfl) (by kernel_rfl) (by kernel_rfl) (by kernel_rfl) (fun _ _ _ h => h) (Or.inl ⟨by rfl, ?_⟩) hHeld ?_
      rotate_left
      · (intro w hSw; (try dsimp only at hSw); go_simp <;> with_reducible rfl)
      try simp only [Act.put, List.setIfInBounds_toArray, List.set_cons_zero, List.set_cons_succ]
      -- 31: t48 := move t5 : 3   [if ⟨24, false⟩]
      refine wpB_take (i := 31) (v := ?_) (get_of_drop rfl) (by kernel_rfl) (by kernel_rfl) (by kernel_rfl) (by kernel_rfl) (fun _ _ _ h => h) (Or.inl ⟨by rfl, ?_⟩) hHeld ?_
      rotate_left
      · (intro w hSw; (try dsimp only at hSw); go_simp <;> with_reducible rfl)
      try simp only [Act.put, List.setIfInBounds_toArray, List.set_cons_zero, List.set_cons_succ]
      -- 32: t49 := indexAddr 28 t47 t48 : 0   [if ⟨24, false⟩]
      refine wpB_take (i := 32) (v := ?_) (get_of_drop rfl) (by kernel_rfl) (by kernel_rfl) (by kernel_rfl) (by kernel_rfl) (fun _ _ _ h => h) (Or.inl ⟨by rfl, ?_⟩) hHeld ?_
      rotate_left
      · (intro w hSw; (try dsimp only at hSw); go_simp <;> with_reducible rfl)
      try simp only [Act.put, List.setIfInBounds_toArray, List.set_cons_zero, List.set_cons_succ]
      -- 33: t50 := fieldAddr 70 t49 2 : 0   [if ⟨24, false⟩]
      refine wpB_take (i := 33) (v := ?_) (get_of_drop rfl) (by kernel_rfl) (by kernel_rfl) (by kernel_rfl) (by kernel_rfl) (fun _ _ _ h => h) (Or.inl ⟨by rfl, ?_⟩) hHeld ?_
      rotate_left
      · (intro w hSw; (try dsimp only at hSw); go_simp <;> with_reducible rfl)
      try simp only [Act.put, List.setIfInBounds_toArray, List.set_cons_zero, List.set_cons_succ]
      -- 34: t51 := load 3 t50 : 3   [if ⟨24, false⟩]
      refine wpB_take (i := 34) (v := ?_) (get_of_drop rfl) (by kernel_rfl) (by kernel_rfl) (by kernel_rfl) (by kernel_rfl) (fun _ _ _ h => h) (Or.inl ⟨by rfl, ?_⟩) hHeld ?_
      rotate_left
      · (intro w hSw; (try dsimp only at hSw); go_simp <;> with_reducible rfl)
      try simp only [Act.put, List.setIfInBounds_toArray, List.set_cons_zero, List.set_cons_succ]
      -- 35: t52 := binOp BinOp.neq 3 t46 t51 3 : 4   [if ⟨24, false⟩]
      refine wpB_take (i := 35) (v := ?_) (get_of_drop rfl) (by kernel_rfl) (by kernel_rfl) (by kernel_rfl) (by kernel_rfl) (fun _ _ _ h => h) (Or.inl ⟨by rfl, ?_⟩) hHeld ?_
      rotate_left
      · (intro w hSw; (try dsimp only at hSw); go_simp <;> with_reducible rfl)
      try simp only [Act.put, List.setIfInBounds_toArray, List.set_cons_zero, List.set_cons_succ]
      -- 36: t53 := pick t41 #true t52 : 4
      refine wpB_take (i := 36) (v := ?_) (get_of_drop rfl) (by kernel_rfl) (by kernel_rfl) (by kernel_rfl) (by kernel_rfl) (fun _ _ _ h => h) (Or.inl ⟨by rfl, ?_⟩) hHeld ?_
      rotate_left
      · (intro w hSw; (try dsimp only at hSw); go_simp <;> with_reducible rfl)
      try simp only [Act.put, List.setIfInBounds_toArray, List.set_cons_zero, List.set_cons_succ]
      -- 37: t54 := move t53 : 4
      refine wpB_take (i := 37) (v := ?_) (get_of_drop rfl) (by kernel_rfl) (by kernel_rfl) (by kernel_rfl) (by kernel_rfl) (fun _ _ _ h => h) (Or.inl ⟨by rfl, ?_⟩) hHeld ?_
      rotate_left
      · (intro w hSw; (try dsimp only at hSw); go_simp <;> with_reducible rfl)
      try simp only [Act.put, List.setIfInBounds_toArray, List.set_cons_zero, List.set_cons_succ]
      -- 38: t55 := move t0 : 28   [if ⟨37, false⟩]
      refine wpB_take (i := 38) (v := ?_) (get_of_drop rfl) (by kernel_rfl) (by kernel_rfl) (by kernel_rfl) (by kernel_rfl) (fun _ _ _ h => h) (Or.inl ⟨by rfl, ?_⟩) hHeld ?_
      rotate_left
      · (intro w hSw; (try dsimp only at hSw); go_simp <;> with_reducible rfl)
      try simp only [Act.put, List.setIfInBounds_toArray, List.set_cons_zero, List.set_cons_succ]
      -- 39: t56 := move t5 : 3   [if ⟨37, false⟩]
      refine wpB_take (i := 39) (v := ?_) (get_of_drop rfl) (by kernel_rfl) (by kernel_rfl) (by kernel_rfl) (by kernel_rfl) (fun _ _ _ h => h) (Or.inl ⟨by rfl, ?_⟩) hHeld ?_
      rotate_left
      · (intro w hSw; (try dsimp only at hSw); go_simp <;> with_reducible rfl)
      try simp only [Act.put, List.setIfInBounds_toArray, List.set_cons_zero, List.set_cons_succ]
      -- 40: t57 := indexAddr 28 t55 t56 : 0   [if ⟨37, false⟩]
      refine wpB_take (i := 40) (v := ?_) (get_of_drop rfl) (by kernel_rfl) (by kernel_rfl) (by kernel_rfl) (by kernel_rfl) (fun _ _ _ h => h) (Or.inl ⟨by rfl, ?_⟩) hHeld ?_
      rotate_left
      · (intro w hSw; (try dsimp only at hSw); go_simp <;> with_reducible rfl)
      try simp only [Act.put, List.setIfInBounds_toArray, List.set_cons_zero, List.set_cons_succ]
      -- 41: t58 := fieldAddr 70 t57 3 : 0   [if ⟨37, false⟩]
      refine wpB_take (i := 41) (v := ?_) (get_of_drop rfl) (by kernel_rfl) (by kernel_rfl) (by kernel_rfl) (by kernel_rfl) (fun _ _ _ h => h) (Or.inl ⟨by rfl, ?_⟩) hHeld ?_
      rotate_left
      · (intro w hSw; (try dsimp only at hSw); go_simp <;> with_reducible rfl)
      try simp only [Act.put, List.setIfInBounds_toArray, List.set_cons_zero, List.set_cons_succ]
      -- 42: t59 := load 68 t58 : 68   [if ⟨37, false⟩]
      refine wpB_take (i := 42) (v := ?_) (get_of_drop rfl) (by kernel_rfl) (by kernel_rfl) (by kernel_rfl) (by kernel_rfl) (fun _ _ _ h => h) (Or.inl ⟨by rfl, ?_⟩) hHeld ?_
      rotate_left
      · (intro w hSw; (try dsimp only at hSw); go_simp <;> with_reducible rfl)
      try simp only [Act.put, List.setIfInBounds_toArray, List.set_cons_zero, List.set_cons_succ]
      -- 43: t60 := move t1 : 28   [if ⟨37, false⟩]
      refine wpB_take (i := 43) (v := ?_) (get_of_drop rfl) (by kernel_rfl) (by kernel_rfl) (by kernel_rfl) (by kernel_rfl) (fun _ _ _ h => h) (Or.inl ⟨by rfl, ?_⟩) hHeld ?_
      rotate_left
      · (intro w hSw; (try dsimp only at hSw); go_simp <;> with_reducible rfl)
      try simp only [Act.put, List.setIfInBounds_toArray, List.set_cons_zero, List.set_cons_succ]
      -- 44: t61 := move t5 : 3   [if ⟨37, false⟩]
      refine wpB_take (i := 44) (v := ?_) (get_of_drop rfl) (by kernel_rfl) (by kernel_rfl) (by kernel_rfl) (by kernel_rfl) (fun _ _ _ h => h) (Or.inl ⟨by rfl, ?_⟩) hHeld ?_
      rotate_left
      · (intro w hSw; (try dsimp only at hSw); go_simp <;> with_reducible rfl)
      try simp only [Act.put, List.setIfInBounds_toArray, List.set_cons_zero, List.set_cons_succ]
      -- 45: t62 := indexAddr 28 t60 t61 : 0   [if ⟨37, false⟩]
      refine wpB_take (i := 45) (v := ?_) (get_of_drop rfl) (by kernel_rfl) (by kernel_rfl) (by kernel_rfl) (by kernel_rfl) (fun _ _ _ h => h) (Or.inl ⟨by rfl, ?_⟩) hHeld ?_
      rotate_left
      · (intro w hSw; (try dsimp only at hSw); go_simp <;> with_reducible rfl)
      try simp only [Act.put, List.setIfInBounds_toArray, List.set_cons_zero, List.set_cons_succ]
      -- 46: t63 := fieldAddr 70 t62 3 : 0   [if ⟨37, false⟩]
      refine wpB_take (i := 46) (v := ?_) (get_of_drop rfl) (by kernel_rfl) (by kernel_rfl) (by kernel_rfl) (by kernel_rfl) (fun _ _ _ h => h) (Or.inl ⟨by rfl, ?_⟩) hHeld ?_
      rotate_left
      · (intro w hSw; (try dsimp only at hSw); go_simp <;> with_reducible rfl)
      try simp only [Act.put, List.setIfInBounds_toArray, List.set_cons_zero, List.set_cons_succ]
      -- 47: t64 := load 68 t63 : 68   [if ⟨37, false⟩]
      refine wpB_take (i := 47) (v := ?_) (get_of_drop rfl) (by kernel_rfl) (by kernel_rfl) (by kernel_rfl) (by kernel_rfl) (fun _ _ _ h => h) (Or.inl ⟨by rfl, ?_⟩) hHeld ?_
      rotate_left
      · (intro w hSw; (try dsimp only at hSw); go_simp <;> with_reducible rfl)
      try simp only [Act.put, List.setIfInBounds_toArray, List.set_cons_zero, List.set_cons_succ]
      -- 48: t65 := CALL fn47(t59, t64) : 4   [if ⟨37, false⟩]
      refine wpB_act (i := 48) (by kernel_rfl) (get_of_drop rfl) (fun K hK => ?_)
      go_simp
      refine (samedelta_any (e := x) (d := y) (HRX.out.chg hHeld (fun _ _ h => h)) (HRY.out.chg hHeld (fun _ _ h => h))).mono ?_
      rintro e w2 ⟨rfl, h2⟩
      rw [← GE.out]
      refine hK.out _ _ ?_ (fun hHeld2 => ?_)
      · (first | assumption | exact (Chg.drew (Chg.refl _ _)).trans h2 (fun _ h _ => h) | exact hHeld.trans h2 (fun _ h _ => h))
      clear hHeld hK K
      have hHeld := hHeld2
      clear hHeld2
      try simp only [Act.put, List.setIfInBounds_toArray, List.set_cons_zero, List.set_cons_succ]
      -- 49: t66 := unOp UnOp.not 4 t65 : 4   [if ⟨37, false⟩]
      refine wpB_take (i := 49) (v := ?_) (get_of_drop rfl) (by kernel_rfl) (by kernel_rfl) (by kernel_rfl) (by kernel_rfl) (fun _ _ _ h => h) (Or.inl ⟨by rfl, ?_⟩) hHeld ?_
      rotate_left
      · (intro w hSw; (try dsimp only at hSw); go_simp <;> with_reducible rfl)
      try simp only [Act.put, List.setIfInBounds_toArray, List.set_cons_zero, List.set_cons_succ]
      -- 50: t67 := pick t54 #true t66 : 4
      refine wpB_take (i := 50) (v := ?_) (get_of_drop rfl) (by kernel_rfl) (by kernel_rfl) (by kernel_rfl) (by kernel_rfl) (fun _ _ _ h => h) (Or.inl ⟨by rfl, ?_⟩) hHeld ?_
      rotate_left
      · (intro w hSw; (try dsimp only at hSw); go_simp <;> with_reducible rfl)
      try simp only [Act.put, List.setIfInBounds_toArray, List.set_cons_zero, List.set_cons_succ]
      refine wpB_done (by kernel_rfl) ?_ _
      have C2 := hid (HC.out.trans hHeld (fun _ h _ => h))
      clear hHeld h2 ux0 uy0 ux1 uy1 ux2 uy2 ux3 uy3 ux4 uy4 ux5 uy5 ux6 uy6 ux7 uy7 ux8 uy8 bg0 bg1 bg2 x0 y0 x1 y1 x2 y2 x3 y3 x4 y4 x5 y5 x6 y6 x7 y7 x8 y8 HX9
      cases g : decide (x = y)
      · have HN := hid (NE.out (of_decide_eq_false g))
        clear g
        go_wp2_with fail
        go_ret
        exact ⟨by rw [decide_eq_false HN.out]; rfl, C2.out⟩
      · have HN := hid (show xs.take (k + 1) = ys.take (k + 1) by rw [TX.out, TY.out, HE.out, of_decide_eq_true g])
        clear g
        go_wp2_with fail
        go_roundw
        case measure => simp [intOf]; omega
        case rel => first | exact ⟨k + 1, hlt, by go_num, HN.out, C2.out⟩ | ((repeat apply Exists.intro); exact ⟨⟨k + 1, hlt, by go_num, HN.out, C2.out⟩, rfl⟩)
    · have hkn : ¬ (k : Int) < (n : Int) := by omega
      clear hC
      go_wp2_with fail
      go_ret
      have e := HE.out
      rw [List.take_of_length_le (by have := LX.out; omega), List.take_of_length_le (by have := LY.out; omega)] at e
      exact ⟨by rw [decide_eq_true e]; rfl, HC.out⟩
end Go.Proofs.Ytcmfgijdelaelaa.Pa
