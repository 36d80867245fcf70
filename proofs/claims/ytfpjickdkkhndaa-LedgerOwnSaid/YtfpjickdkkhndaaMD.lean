/- Texts of this claim, one behind the other: PackSd, PackV, PackX, PackY, PackZ. -/
import Derived.Test.YtfpjickdkkhndaaMC
import Derived.Shelf.Abstract
import Derived.Test.YtfpjickdkkhndaaMB

/- The contracts of the document's SameDelta and Same. -/

namespace Go.Proofs.Ytfpjickdkkhndaa.Pa

set_option linter.unusedVariables false

set_option linter.unusedSimpArgs false

open Go.RowKit Go.Proofs.Ytfpjickdkkhndaa.C

attribute [local go_sem] max2_int min2_int max_two min_two

/-- A delta's part of an entry: is it the same? -/
def dsame (e d : Entry) : Bool := e.dflt == d.dflt && e.closed == d.closed && e.fuel == d.fuel && e.stack == d.stack && decide (e.put = d.put) && decide (e.drop = d.drop)
theorem entry_dsame (e d : Entry) : decide (e = d) = (e.view == d.view && e.client == d.client && e.request == d.request && dsame e d) := by
  rw [Bool.eq_iff_iff, decide_eq_true_iff, entry_ext]
  unfold dsame
  simp only [Bool.and_eq_true, beq_iff_eq, decide_eq_true_eq, and_assoc]
set_option maxHeartbeats 4000000 in
set_option maxRecDepth 100000 in
theorem samedelta_any {R R' : Nat → Prop} {e d : Entry} {A1 : Option Addr} {n1 c1 : Nat} {A2 : Option Addr} {n2 c2 : Nat} {B1 : Option Addr} {m1 d1 : Nat} {B2 : Option Addr} {m2 d2 : Nat} {w : World} (he : EntryAt w R e A1 n1 c1 A2 n2 c2) (hd : EntryAt w R' d B1 m1 d1 B2 m2 d2) :
    Calls Try.prog 61 #[.agg #[.int .i64 e.dflt, .int .i64 e.closed, .int .i64 e.fuel, .int .i64 e.stack, .slice A1 n1 c1, .slice A2 n2 c2], .agg #[.int .i64 d.dflt, .int .i64 d.closed, .int .i64 d.fuel, .int .i64 d.stack, .slice B1 m1 d1, .slice B2 m2 d2]] w fun e' w' => e' = .returned (.bool (dsame e d)) ∧ Chg (fun _ => False) w w' := by
  obtain ⟨W, hW⟩ : ∃ W, W = (w.alloc (.cells #[.int .i64 e.dflt, .int .i64 e.closed, .int .i64 e.fuel, .int .i64 e.stack, .slice A1 n1 c1, .slice A2 n2 c2] 98)).alloc (.cells #[.int .i64 d.dflt, .int .i64 d.closed, .int .i64 d.fuel, .int .i64 d.stack, .slice B1 m1 d1, .slice B2 m2 d2] 98) := ⟨_, rfl⟩
  have CB := hid (show Chg (fun _ => False) w W by rw [hW]; exact ((Chg.refl _ w).alloc _).alloc _)
  have k1 : W.heap[w.heap.size]? = some (.cells #[.int .i64 e.dflt, .int .i64 e.closed, .int .i64 e.fuel, .int .i64 e.stack, .slice A1 n1 c1, .slice A2 n2 c2] 98 (0, 0)) := by rw [hW]; exact blk_alloc (blk_new w _) _
  have k2 : W.heap[w.heap.size + 1]? = some (.cells #[.int .i64 d.dflt, .int .i64 d.closed, .int .i64 d.fuel, .int .i64 d.stack, .slice B1 m1 d1, .slice B2 m2 d2] 98 (0, 0)) := by
    rw [hW]
    have := blk_new (w.alloc (.cells #[.int .i64 e.dflt, .int .i64 e.closed, .int .i64 e.fuel, .int .i64 e.stack, .slice A1 n1 c1, .slice A2 n2 c2] 98)) (.cells #[.int .i64 d.dflt, .int .i64 d.closed, .int .i64 d.fuel, .int .i64 d.stack, .slice B1 m1 d1, .slice B2 m2 d2] 98)
    simpa using this
  have P1 := hid (he.2.1.chg CB.out (fun _ _ h => h))
  have P2 := hid (he.2.2.chg CB.out (fun _ _ h => h))
  have Q1 := hid (hd.2.1.chg CB.out (fun _ _ h => h))
  have Q2 := hid (hd.2.2.chg CB.out (fun _ _ h => h))
  have L1 := hid he.2.1.1
  have L2 := hid he.2.2.1
  have M1 := hid hd.2.1.1
  have M2 := hid hd.2.2.1
  have hn1 : (n1 : Int) ≤ 9223372036854775807 := by have q1 := he.2.1.2.1; have q2 := he.2.1.2.2.1; simp [maxLen] at q2; omega
  have hn2 : (n2 : Int) ≤ 9223372036854775807 := by have q1 := he.2.2.2.1; have q2 := he.2.2.2.2.1; simp [maxLen] at q2; omega
  clear he hd
  have x0 : W.cell? ⟨w.heap.size, 0, none⟩ = _ := cellAt k1 0
  have y0 : W.cell? ⟨w.heap.size + 1, 0, none⟩ = _ := cellAt k2 0
  have x1 : W.cell? ⟨w.heap.size, 1, none⟩ = _ := cellAt k1 1
  have y1 : W.cell? ⟨w.heap.size + 1, 1, none⟩ = _ := cellAt k2 1
  have x2 : W.cell? ⟨w.heap.size, 2, none⟩ = _ := cellAt k1 2
  have y2 : W.cell? ⟨w.heap.size + 1, 2, none⟩ = _ := cellAt k2 2
  have x3 : W.cell? ⟨w.heap.size, 3, none⟩ = _ := cellAt k1 3
  have y3 : W.cell? ⟨w.heap.size + 1, 3, none⟩ = _ := cellAt k2 3
  have x4 : W.cell? ⟨w.heap.size, 4, none⟩ = _ := cellAt k1 4
  have y4 : W.cell? ⟨w.heap.size + 1, 4, none⟩ = _ := cellAt k2 4
  have x5 : W.cell? ⟨w.heap.size, 5, none⟩ = _ := cellAt k1 5
  have y5 : W.cell? ⟨w.heap.size + 1, 5, none⟩ = _ := cellAt k2 5
  simp only [List.getElem?_toArray, List.getElem?_cons_zero, List.getElem?_cons_succ] at x0 y0 x1 y1 x2 y2 x3 y3 x4 y4 x5 y5
  clear k1 k2
  have HW := hid hW
  clear hW
  have X4 := hid x4
  have Y4 := hid y4
  have X5 := hid x5
  have Y5 := hid y5
  go_enter Try.func61, Try.ntmps61
  cases g0 : (e.dflt == d.dflt)
  case false =>
    have gb : (e.dflt != d.dflt) = true := by simp [bne, g0]
    have G := hid (show dsame e d = false by simp [dsame, g0])
    clear g0
    go_wp2_with fail
    go_ret
    exact ⟨by rw [G.out]; rfl, ((Chg.refl (fun _ => False) w).alloc _).alloc _⟩
  have bg0 : (e.dflt != d.dflt) = false := by simp [bne, g0]
  have Hg0 := hid g0
  clear g0
  cases g1 : (e.closed == d.closed)
  case false =>
    have gb : (e.closed != d.closed) = true := by simp [bne, g1]
    have G := hid (show dsame e d = false by simp [dsame, g1])
    clear g1
    go_wp2_with fail
    go_ret
    exact ⟨by rw [G.out]; rfl, ((Chg.refl (fun _ => False) w).alloc _).alloc _⟩
  have bg1 : (e.closed != d.closed) = false := by simp [bne, g1]
  have Hg1 := hid g1
  clear g1
  cases g2 : (e.fuel == d.fuel)
  case false =>
    have gb : (e.fuel != d.fuel) = true := by simp [bne, g2]
    have G := hid (show dsame e d = false by simp [dsame, g2])
    clear g2
    go_wp2_with fail
    go_ret
    exact ⟨by rw [G.out]; rfl, ((Chg.refl (fun _ => False) w).alloc _).alloc _⟩
  have bg2 : (e.fuel != d.fuel) = false := by simp [bne, g2]
  have Hg2 := hid g2
  clear g2
  cases g3 : (e.stack == d.stack)
  case false =>
    have gb : (e.stack != d.stack) = true := by simp [bne, g3]
    have G := hid (show dsame e d = false by simp [dsame, g3])
    clear g3
    go_wp2_with fail
    go_ret
    exact ⟨by rw [G.out]; rfl, ((Chg.refl (fun _ => False) w).alloc _).alloc _⟩
  have bg3 : (e.stack != d.stack) = false := by simp [bne, g3]
  have Hg3 := hid g3
  clear g3
  by_cases hl1 : n1 = m1
  case neg =>
    have hl1' : ((n1 : Int) != (m1 : Int)) = true := by simp; omega
    have G := hid (show dsame e d = false by unfold dsame; rw [decide_eq_false (fun h => hl1 (by rw [L1.out, M1.out, h]) : ¬ e.put = d.put)]; simp)
    clear hl1
    go_wp2_with fail
    go_ret
    exact ⟨by rw [G.out]; rfl, ((Chg.refl (fun _ => False) w).alloc _).alloc _⟩
  by_cases hl2 : n2 = m2
  case neg =>
    have hl2' : ((n2 : Int) != (m2 : Int)) = true := by simp; omega
    subst hl1
    have G := hid (show dsame e d = false by unfold dsame; rw [decide_eq_false (fun h => hl2 (by rw [L2.out, M2.out, h]) : ¬ e.drop = d.drop)]; simp)
    clear hl2
    go_wp2_with fail
    go_ret
    exact ⟨by rw [G.out]; rfl, ((Chg.refl (fun _ => False) w).alloc _).alloc _⟩
  subst hl1 hl2
  have GE := hid (show dsame e d = (decide (e.put = d.put) && decide (e.drop = d.drop)) by unfold dsame; rw [Hg0.out, Hg1.out, Hg2.out, Hg3.out]; rfl)
  clear x0 y0 x1 y1 x2 y2 x3 y3 x4 y4 x5 y5
  go_wp2_with fail
  rw [← HW.out]
  clear HW bg0 bg1 bg2 bg3
  go_loopw [5] (fun i wr => ∃ k : Nat, k ≤ n1 ∧ i = .int .i64 k ∧ e.put.take k = d.put.take k ∧ Chg (fun _ => False) W wr) (fun i _ => n1 - (intOf i).toNat)
  case atStart => exact ⟨0, Nat.zero_le _, rfl, rfl, Chg.refl _ _⟩
  case round =>
    obtain ⟨k, hk, rfl, he, hC⟩ := hrel
    have HE := hid he
    have HC := hid hC
    have z4 := hC.cell X4.out (fun h => h)
    have t4 := hC.cell Y4.out (fun h => h)
    clear he
    by_cases hlt : k < n1
    · obtain ⟨x, hx⟩ : ∃ x, e.put[k]? = some x := ⟨_, List.getElem?_eq_getElem (by have := L1.out; omega)⟩
      obtain ⟨y, hy⟩ : ∃ y, d.put[k]? = some y := ⟨_, List.getElem?_eq_getElem (by have := M1.out; omega)⟩
      obtain ⟨a, cs, ha, haR, hK, hcs⟩ := P1.out.get (by decide) hx
      obtain ⟨b, ds, hb, hbR, hK', hds⟩ := Q1.out.get (by decide) hy
      obtain ⟨rfl, hrw⟩ := rule_open hK
      obtain ⟨rfl, hrw'⟩ := rule_open hK'
      clear hrw hrw'
      subst ha hb
      have hcs2 : ∀ j u, (ruleCells x)[j]? = some u → wr.cell? (a.add (k * 5 + j)) = some u := fun j u hj => hC.cell (hcs j u hj) (fun h => h)
      have hds2 : ∀ j u, (ruleCells y)[j]? = some u → wr.cell? (b.add (k * 5 + j)) = some u := fun j u hj => hC.cell (hds j u hj) (fun h => h)
      have x0 := elem_cell0 hcs2 _ rfl
      have y0 := elem_cell0 hds2 _ rfl
      have x1 := elem_cell hcs2 0 _ rfl
      have y1 := elem_cell hds2 0 _ rfl
      have x2 := elem_cell hcs2 1 _ rfl
      have y2 := elem_cell hds2 1 _ rfl
      have x3 := elem_cell hcs2 2 _ rfl
      have y3 := elem_cell hds2 2 _ rfl
      have x4 := elem_cell hcs2 3 _ rfl
      have y4 := elem_cell hds2 3 _ rfl
      have TX := hid (show e.put.take (k + 1) = e.put.take k ++ [x] by rw [List.take_add_one, hx]; rfl)
      have TY := hid (show d.put.take (k + 1) = d.put.take k ++ [y] by rw [List.take_add_one, hy]; rfl)
      have NE := hid (show x ≠ y → e.put ≠ d.put from fun h e' => h (by rw [e'] at hx; rw [hx] at hy; injection hy))
      have e1 := fun w => refrule_neq x y w
      clear hcs hds hK hK' hcs2 hds2 hx hy haR hbR hC
      have hlt2 : (k : Int) < (n1 : Int) := by omega
      go_wp2_with fail
      go_quiet (fail)
      clear x0 y0 x1 x2 x3 x4 y1 y2 y3 y4 e1 z4 t4
      have C2 := hid (HC.out.drewN nq)
      by_cases hxy : x = y
      · have HN := hid (show e.put.take (k + 1) = d.put.take (k + 1) by rw [TX.out, TY.out, HE.out, hxy])
        rw [decide_eq_true hxy]
        clear hxy
        go_wp2_with fail
        go_roundw
        case measure => simp [intOf]; omega
        case rel => first | exact ⟨k + 1, hlt, by go_num, HN.out, C2.out⟩ | ((repeat apply Exists.intro); exact ⟨⟨k + 1, hlt, by go_num, HN.out, C2.out⟩, rfl⟩)
      · have HN := hid (NE.out hxy)
        rw [decide_eq_false hxy]
        clear hxy
        go_wp2_with fail
        go_ret
        exact ⟨by rw [GE.out, decide_eq_false HN.out]; rfl, CB.out.trans C2.out (fun _ h _ => h)⟩
    · have hkn : ¬ (k : Int) < (n1 : Int) := by omega
      clear hC
      have EP := hid (show e.put = d.put from by
        have e' := HE.out
        rwa [List.take_of_length_le (by have := L1.out; omega), List.take_of_length_le (by have := M1.out; omega)] at e')
      go_wp2_with fail
      obtain ⟨W1, hW1⟩ : ∃ W1, W1 = wr := ⟨_, rfl⟩
      have HC1 := hid (show Chg (fun _ => False) W W1 by rw [hW1]; exact HC.out)
      rw [← hW1]
      clear hW1 HC z4 t4 HE
      go_loopw [6] (fun i wr => ∃ j : Nat, j ≤ n2 ∧ i = .int .i64 j ∧ e.drop.take j = d.drop.take j ∧ Chg (fun _ => False) W wr) (fun i _ => n2 - (intOf i).toNat)
      case atStart => exact ⟨0, Nat.zero_le _, rfl, rfl, HC1.out⟩
      case round =>
        obtain ⟨j, hj, rfl, he, hC⟩ := hrel
        have HE := hid he
        have HC := hid hC
        have z5 := hC.cell X5.out (fun h => h)
        have t5 := hC.cell Y5.out (fun h => h)
        clear he
        by_cases hlt : j < n2
        · obtain ⟨x, hx⟩ : ∃ x, e.drop[j]? = some x := ⟨_, List.getElem?_eq_getElem (by have := L2.out; omega)⟩
          obtain ⟨y, hy⟩ : ∃ y, d.drop[j]? = some y := ⟨_, List.getElem?_eq_getElem (by have := M2.out; omega)⟩
          obtain ⟨a, cs, ha, haR, hK, hcs⟩ := P2.out.get (by decide) hx
          obtain ⟨b, ds, hb, hbR, hK', hds⟩ := Q2.out.get (by decide) hy
          obtain ⟨rfl, hrw⟩ := (id hK)
          obtain ⟨rfl, hrw'⟩ := (id hK')
          clear hrw hrw'
          subst ha hb
          have hcs2 : ∀ i u, [Value.int .i64 x][i]? = some u → wr.cell? (a.add (j * 1 + i)) = some u := fun i u hi => hC.cell (hcs i u hi) (fun h => h)
          have hds2 : ∀ i u, [Value.int .i64 y][i]? = some u → wr.cell? (b.add (j * 1 + i)) = some u := fun i u hi => hC.cell (hds i u hi) (fun h => h)
          have x0 := elem_cell0 hcs2 _ rfl
          have y0 := elem_cell0 hds2 _ rfl
          rw [Nat.mul_one] at x0 y0
          have TX := hid (show e.drop.take (j + 1) = e.drop.take j ++ [x] by rw [List.take_add_one, hx]; rfl)
          have TY := hid (show d.drop.take (j + 1) = d.drop.take j ++ [y] by rw [List.take_add_one, hy]; rfl)
          have NE := hid (show x ≠ y → e.drop ≠ d.drop from fun h e' => h (by rw [e'] at hx; rw [hx] at hy; injection hy))
          clear hcs hds hK hK' hcs2 hds2 hx hy haR hbR hC
          have hlt2 : (j : Int) < (n2 : Int) := by omega
          go_wp2_with fail
          go_quiet (fail)
          clear x0 y0 z5 t5
          have C2 := hid (HC.out.drewN nq)
          by_cases hxy : x = y
          · have HN := hid (show e.drop.take (j + 1) = d.drop.take (j + 1) by rw [TX.out, TY.out, HE.out, hxy])
            obtain rfl := hxy
            have hb : (x != x) = false := by simp
            go_wp2_with fail
            go_roundw
            case measure => simp [intOf]; omega
            case rel => first | exact ⟨j + 1, hlt, by go_num, HN.out, C2.out⟩ | ((repeat apply Exists.intro); exact ⟨⟨j + 1, hlt, by go_num, HN.out, C2.out⟩, rfl⟩)
          · have HN := hid (NE.out hxy)
            have hb : (x != y) = true := by simpa using hxy
            clear hxy
            go_wp2_with fail
            go_ret
            exact ⟨by rw [GE.out, decide_eq_false HN.out, Bool.and_false]; rfl, CB.out.trans C2.out (fun _ h _ => h)⟩
        · have hkn : ¬ (j : Int) < (n2 : Int) := by omega
          clear hC
          go_wp2_with fail
          go_ret
          have e' := HE.out
          rw [List.take_of_length_le (by have := L2.out; omega), List.take_of_length_le (by have := M2.out; omega)] at e'
          exact ⟨by rw [GE.out, decide_eq_true EP.out, decide_eq_true e']; rfl, CB.out.trans HC.out (fun _ h _ => h)⟩

set_option maxHeartbeats 4000000 in
set_option maxRecDepth 100000 in
theorem refSame_any {R R' : Nat → Prop} {xs ys : List Entry} {A A' : Option Addr} {n c n' c' : Nat} {w : World} (h : Ty.At entryK w R A n c xs) (h' : Ty.At entryK w R' A' n' c' ys) :
    Calls Try.prog 39 #[.slice A n c, .slice A' n' c'] w fun e w' => e = .returned (.bool (decide (xs = ys))) ∧ Chg (fun _ => False) w w' := by
  have HX := hid h
  have HY := hid h'
  have LX := hid h.1
  have LY := hid h'.1
  have hn : (n : Int) ≤ 9223372036854775807 := by have q1 := h.2.1; have q2 := h.2.2.1; simp [maxLen] at q2; omega
  clear h h'
  by_cases hnm : n = n'
  case neg =>
    have HN := hid (show ¬ xs = ys from fun e => hnm (by rw [LX.out, LY.out, e]))
    have hnm2 : ¬ (n : Int) = (n' : Int) := by omega
    clear hnm
    go_enter Try.func39, Try.ntmps39
    go_wp2_with fail
    go_ret
    exact ⟨by rw [decide_eq_false HN.out]; rfl, Chg.refl _ _⟩
  subst hnm
  go_enter Try.func39, Try.ntmps39
  go_wp2_with fail
  go_loopw [5] (fun i wr => ∃ k : Nat, k ≤ n ∧ i = .int .i64 k ∧ xs.take k = ys.take k ∧ Chg (fun _ => False) w wr) (fun i _ => n - (intOf i).toNat)
  case atStart => exact ⟨0, Nat.zero_le _, rfl, rfl, Chg.refl _ _⟩
  case round =>
    obtain ⟨k, hk, rfl, he, hC⟩ := hrel
    have HE := hid he
    have HC := hid hC
    clear he
    by_cases hlt : k < n
    · obtain ⟨x, hx⟩ : ∃ x, xs[k]? = some x := ⟨_, List.getElem?_eq_getElem (by have := LX.out; omega)⟩
      obtain ⟨y, hy⟩ : ∃ y, ys[k]? = some y := ⟨_, List.getElem?_eq_getElem (by have := LY.out; omega)⟩
      obtain ⟨a, cs, ha, haR, hK, hcs⟩ := HX.out.get (by decide) hx
      obtain ⟨b, ds, hb, hbR, hK', hds⟩ := HY.out.get (by decide) hy
      obtain ⟨E1, p1, r1, E2, p2, r2, rfl, hrw⟩ := entry_open (id hK)
      obtain ⟨D1, q1, s1, D2, q2, s2, rfl, hrw'⟩ := entry_open (id hK')
      have HRX := hid (hrw.chg hC (fun _ _ h => h))
      have HRY := hid (hrw'.chg hC (fun _ _ h => h))
      subst ha hb
      have hcs2 : ∀ j u, (entryCells x E1 p1 r1 E2 p2 r2)[j]? = some u → wr.cell? (a.add (k * 9 + j)) = some u := fun j u hj => hC.cell (hcs j u hj) (fun h => h)
      have hds2 : ∀ j u, (entryCells y D1 q1 s1 D2 q2 s2)[j]? = some u → wr.cell? (b.add (k * 9 + j)) = some u := fun j u hj => hC.cell (hds j u hj) (fun h => h)
      have x0 := elem_cell0 hcs2 _ rfl
      have y0 := elem_cell0 hds2 _ rfl
      have x1 := elem_cell hcs2 0 _ rfl
      have y1 := elem_cell hds2 0 _ rfl
      have x2 := elem_cell hcs2 1 _ rfl
      have y2 := elem_cell hds2 1 _ rfl
      have x3 := elem_cell hcs2 2 _ rfl
      have y3 := elem_cell hds2 2 _ rfl
      have x4 := elem_cell hcs2 3 _ rfl
      have y4 := elem_cell hds2 3 _ rfl
      have x5 := elem_cell hcs2 4 _ rfl
      have y5 := elem_cell hds2 4 _ rfl
      have x6 := elem_cell hcs2 5 _ rfl
      have y6 := elem_cell hds2 5 _ rfl
      have x7 := elem_cell hcs2 6 _ rfl
      have y7 := elem_cell hds2 6 _ rfl
      have x8 := elem_cell hcs2 7 _ rfl
      have y8 := elem_cell hds2 7 _ rfl
      have TX := hid (show xs.take (k + 1) = xs.take k ++ [x] by rw [List.take_add_one, hx]; rfl)
      have TY := hid (show ys.take (k + 1) = ys.take k ++ [y] by rw [List.take_add_one, hy]; rfl)
      have NE := hid (show x ≠ y → xs ≠ ys from fun h e => h (by subst e; rw [hx] at hy; injection hy))
      clear hcs hds hK hK' hcs2 hds2 hx hy haR hbR hrw hrw' hC
      have hlt2 : (k : Int) < (n : Int) := by omega
      have HX9 := hid (And.intro x0 (And.intro x1 x2))
      cases g0 : (x.view == y.view)
      case false =>
        have gb : (x.view != y.view) = true := by simp [bne, g0]
        have HN := hid (NE.out (fun h => by rw [h] at g0; simp at g0))
        clear g0
        go_wp2_with fail
        go_quiet (fail)
        go_wp2_with fail
        go_ret
        exact ⟨by rw [decide_eq_false HN.out]; rfl, HC.out.drewN _⟩
      have bg0 : (x.view != y.view) = false := by simp [bne, g0]
      have Hg0 := hid g0
      clear g0
      cases g1 : (x.client == y.client)
      case false =>
        have gb : (x.client != y.client) = true := by simp [bne, g1]
        have HN := hid (NE.out (fun h => by rw [h] at g1; simp at g1))
        clear g1
        go_wp2_with fail
        go_quiet (fail)
        go_wp2_with fail
        go_ret
        exact ⟨by rw [decide_eq_false HN.out]; rfl, HC.out.drewN _⟩
      have bg1 : (x.client != y.client) = false := by simp [bne, g1]
      have Hg1 := hid g1
      clear g1
      cases g2 : (x.request == y.request)
      case false =>
        have gb : (x.request != y.request) = true := by simp [bne, g2]
        have HN := hid (NE.out (fun h => by rw [h] at g2; simp at g2))
        clear g2
        go_wp2_with fail
        go_quiet (fail)
        go_wp2_with fail
        go_ret
        exact ⟨by rw [decide_eq_false HN.out]; rfl, HC.out.drewN _⟩
      have bg2 : (x.request != y.request) = false := by simp [bne, g2]
      have GE := hid (show decide (x = y) = dsame x y by rw [entry_dsame, Hg0.out, Hg1.out, g2]; rfl)
      clear g2
      have ux0 : ∀ wx, Chg (fun _ => False) wr wx → wx.cell? (a.add (k * 9)) = _ := fun wx hx => hx.cell x0 (fun h => h)
      have uy0 : ∀ wx, Chg (fun _ => False) wr wx → wx.cell? (b.add (k * 9)) = _ := fun wx hx => hx.cell y0 (fun h => h)
      have ux1 : ∀ wx, Chg (fun _ => False) wr wx → wx.cell? ⟨(a.add (k * 9)).block, (a.add (k * 9)).off + 1, none⟩ = _ := fun wx hx => hx.cell x1 (fun h => h)
      have uy1 : ∀ wx, Chg (fun _ => False) wr wx → wx.cell? ⟨(b.add (k * 9)).block, (b.add (k * 9)).off + 1, none⟩ = _ := fun wx hx => hx.cell y1 (fun h => h)
      have ux2 : ∀ wx, Chg (fun _ => False) wr wx → wx.cell? ⟨(a.add (k * 9)).block, (a.add (k * 9)).off + 2, none⟩ = _ := fun wx hx => hx.cell x2 (fun h => h)
      have uy2 : ∀ wx, Chg (fun _ => False) wr wx → wx.cell? ⟨(b.add (k * 9)).block, (b.add (k * 9)).off + 2, none⟩ = _ := fun wx hx => hx.cell y2 (fun h => h)
      have ux3 : ∀ wx, Chg (fun _ => False) wr wx → wx.cell? ⟨(a.add (k * 9)).block, (a.add (k * 9)).off + 3, none⟩ = _ := fun wx hx => hx.cell x3 (fun h => h)
      have uy3 : ∀ wx, Chg (fun _ => False) wr wx → wx.cell? ⟨(b.add (k * 9)).block, (b.add (k * 9)).off + 3, none⟩ = _ := fun wx hx => hx.cell y3 (fun h => h)
      have ux4 : ∀ wx, Chg (fun _ => False) wr wx → wx.cell? ⟨(a.add (k * 9)).block, (a.add (k * 9)).off + 4, none⟩ = _ := fun wx hx => hx.cell x4 (fun h => h)
      have uy4 : ∀ wx, Chg (fun _ => False) wr wx → wx.cell? ⟨(b.add (k * 9)).block, (b.add (k * 9)).off + 4, none⟩ = _ := fun wx hx => hx.cell y4 (fun h => h)
      have ux5 : ∀ wx, Chg (fun _ => False) wr wx → wx.cell? ⟨(a.add (k * 9)).block, (a.add (k * 9)).off + 5, none⟩ = _ := fun wx hx => hx.cell x5 (fun h => h)
      have uy5 : ∀ wx, Chg (fun _ => False) wr wx → wx.cell? ⟨(b.add (k * 9)).block, (b.add (k * 9)).off + 5, none⟩ = _ := fun wx hx => hx.cell y5 (fun h => h)
      have ux6 : ∀ wx, Chg (fun _ => False) wr wx → wx.cell? ⟨(a.add (k * 9)).block, (a.add (k * 9)).off + 6, none⟩ = _ := fun wx hx => hx.cell x6 (fun h => h)
      have uy6 : ∀ wx, Chg (fun _ => False) wr wx → wx.cell? ⟨(b.add (k * 9)).block, (b.add (k * 9)).off + 6, none⟩ = _ := fun wx hx => hx.cell y6 (fun h => h)
      have ux7 : ∀ wx, Chg (fun _ => False) wr wx → wx.cell? ⟨(a.add (k * 9)).block, (a.add (k * 9)).off + 7, none⟩ = _ := fun wx hx => hx.cell x7 (fun h => h)
      have uy7 : ∀ wx, Chg (fun _ => False) wr wx → wx.cell? ⟨(b.add (k * 9)).block, (b.add (k * 9)).off + 7, none⟩ = _ := fun wx hx => hx.cell y7 (fun h => h)
      have ux8 : ∀ wx, Chg (fun _ => False) wr wx → wx.cell? ⟨(a.add (k * 9)).block, (a.add (k * 9)).off + 8, none⟩ = _ := fun wx hx => hx.cell x8 (fun h => h)
      have uy8 : ∀ wx, Chg (fun _ => False) wr wx → wx.cell? ⟨(b.add (k * 9)).block, (b.add (k * 9)).off + 8, none⟩ = _ := fun wx hx => hx.cell y8 (fun h => h)
      go_wp2_with fail
      refine wpB_start (fun wx : World => Chg (fun _ => False) wr wx) (by kernel_rfl) ?_
      have hHeld : (fun wx : World => Chg (fun _ => False) wr wx) _ := (by first | assumption | exact Chg.drew (Chg.refl _ _) | (show _ ∧ _; refine ⟨?_, ?_⟩ <;> assumption) | (first | assumption | exact (Chg.drew (Chg.refl _ _)).trans h2 (fun _ h _ => h) | exact hHeld.trans h2 (fun _ h _ => h)))
      -- 0: t17 := move t0 : 39
      refine wpB_take (i := 0) (v := ?_) (get_of_drop rfl) (by kernel_rfl) (by kernel_rfl) (by kernel_rfl) (by kernel_rfl) (fun _ _ _ h => h) (Or.inl ⟨by rfl, ?_⟩) hHeld ?_
      rotate_left
      · (intro w hSw; (try dsimp only at hSw); go_simp <;> with_reducible rfl)
      try simp only [Act.put, List.setIfInBounds_toArray, List.set_cons_zero, List.set_cons_succ]
      -- 1: t18 := move t5 : 3
      refine wpB_take (i := 1) (v := ?_) (get_of_drop rfl) (by kernel_rfl) (by kernel_rfl) (by kernel_rfl) (by kernel_rfl) (fun _ _ _ h => h) (Or.inl ⟨by rfl, ?_⟩) hHeld ?_
      rotate_left
      · (intro w hSw; (try dsimp only at hSw); go_simp <;> with_reducible rfl)
      try simp only [Act.put, List.setIfInBounds_toArray, List.set_cons_zero, List.set_cons_succ]
      -- 2: t19 := indexAddr 39 t17 t18 : 0
      refine wpB_take (i := 2) (v := ?_) (get_of_drop rfl) (by kernel_rfl) (by kernel_rfl) (by kernel_rfl) (by kernel_rfl) (fun _ _ _ h => h) (Or.inl ⟨by rfl, ?_⟩) hHeld ?_
      rotate_left
      · (intro w hSw; (try dsimp only at hSw); go_simp <;> with_reducible rfl)
      try simp only [Act.put, List.setIfInBounds_toArray, List.set_cons_zero, List.set_cons_succ]
      -- 3: t20 := fieldAddr 100 t19 0 : 0
      refine wpB_take (i := 3) (v := ?_) (get_of_drop rfl) (by kernel_rfl) (by kernel_rfl) (by kernel_rfl) (by kernel_rfl) (fun _ _ _ h => h) (Or.inl ⟨by rfl, ?_⟩) hHeld ?_
      rotate_left
      · (intro w hSw; (try dsimp only at hSw); go_simp <;> with_reducible rfl)
      try simp only [Act.put, List.setIfInBounds_toArray, List.set_cons_zero, List.set_cons_succ]
      -- 4: t21 := load 3 t20 : 3
      refine wpB_take (i := 4) (v := ?_) (get_of_drop rfl) (by kernel_rfl) (by kernel_rfl) (by kernel_rfl) (by kernel_rfl) (fun _ _ _ h => h) (Or.inl ⟨by rfl, ?_⟩) hHeld ?_
      rotate_left
      · (intro w hSw; (try dsimp only at hSw); go_simp <;> with_reducible rfl)
      try simp only [Act.put, List.setIfInBounds_toArray, List.set_cons_zero, List.set_cons_succ]
      -- 5: t22 := move t1 : 39
      refine wpB_take (i := 5) (v := ?_) (get_of_drop rfl) (by kernel_rfl) (by kernel_rfl) (by kernel_rfl) (by kernel_rfl) (fun _ _ _ h => h) (Or.inl ⟨by rfl, ?_⟩) hHeld ?_
      rotate_left
      · (intro w hSw; (try dsimp only at hSw); go_simp <;> with_reducible rfl)
      try simp only [Act.put, List.setIfInBounds_toArray, List.set_cons_zero, List.set_cons_succ]
      -- 6: t23 := move t5 : 3
      refine wpB_take (i := 6) (v := ?_) (get_of_drop rfl) (by kernel_rfl) (by kernel_rfl) (by kernel_rfl) (by kernel_rfl) (fun _ _ _ h => h) (Or.inl ⟨by rfl, ?_⟩) hHeld ?_
      rotate_left
      · (intro w hSw; (try dsimp only at hSw); go_simp <;> with_reducible rfl)
      try simp only [Act.put, List.setIfInBounds_toArray, List.set_cons_zero, List.set_cons_succ]
      -- 7: t24 := indexAddr 39 t22 t23 : 0
      refine wpB_take (i := 7) (v := ?_) (get_of_drop rfl) (by kernel_rfl) (by kernel_rfl) (by kernel_rfl) (by kernel_rfl) (fun _ _ _ h => h) (Or.inl ⟨by rfl, ?_⟩) hHeld ?_
      rotate_left
      · (intro w hSw; (try dsimp only at hSw); go_simp <;> with_reducible rfl)
      try simp only [Act.put, List.setIfInBounds_toArray, List.set_cons_zero, List.set_cons_succ]
      -- 8: t25 := fieldAddr 100 t24 0 : 0
      refine wpB_take (i := 8) (v := ?_) (get_of_drop rfl) (by kernel_rfl) (by kernel_rfl) (by kernel_rfl) (by kernel_rfl) (fun _ _ _ h => h) (Or.inl ⟨by rfl, ?_⟩) hHeld ?_
      rotate_left
      · (intro w hSw; (try dsimp only at hSw); go_simp <;> with_reducible rfl)
      try simp only [Act.put, List.setIfInBounds_toArray, List.set_cons_zero, List.set_cons_succ]
      -- 9: t26 := load 3 t25 : 3
      refine wpB_take (i := 9) (v := ?_) (get_of_drop rfl) (by kernel_rfl) (by kernel_rfl) (by kernel_rfl) (by kernel_rfl) (fun _ _ _ h => h) (Or.inl ⟨by rfl, ?_⟩) hHeld ?_
      rotate_left
      · (intro w hSw; (try dsimp only at hSw); go_simp <;> with_reducible rfl)
      try simp only [Act.put, List.setIfInBounds_toArray, List.set_cons_zero, List.set_cons_succ]
      -- 10: t27 := binOp BinOp.neq 3 t21 t26 3 : 4
      refine wpB_take (i := 10) (v := ?_) (get_of_drop rfl) (by kernel_rfl) (by kernel_rfl) (by kernel_rfl) (by kernel_rfl) (fun _ _ _ h => h) (Or.inl ⟨by rfl, ?_⟩) hHeld ?_
      rotate_left
      · (intro w hSw; (try dsimp only at hSw); go_simp <;> with_reducible rfl)
      try simp only [Act.put, List.setIfInBounds_toArray, List.set_cons_zero, List.set_cons_succ]
      -- 11: t28 := move t27 : 4
      refine wpB_take (i := 11) (v := ?_) (get_of_drop rfl) (by kernel_rfl) (by kernel_rfl) (by kernel_rfl) (by kernel_rfl) (fun _ _ _ h => h) (Or.inl ⟨by rfl, ?_⟩) hHeld ?_
      rotate_left
      · (intro w hSw; (try dsimp only at hSw); go_simp <;> with_reducible rfl)
      try simp only [Act.put, List.setIfInBounds_toArray, List.set_cons_zero, List.set_cons_succ]
      -- 12: t29 := move t0 : 39   [if ⟨11, false⟩]
      refine wpB_take (i := 12) (v := ?_) (get_of_drop rfl) (by kernel_rfl) (by kernel_rfl) (by kernel_rfl) (by kernel_rfl) (fun _ _ _ h => h) (Or.inl ⟨by rfl, ?_⟩) hHeld ?_
      rotate_left
      · (intro w hSw; (try dsimp only at hSw); go_simp <;> with_reducible rfl)
      try simp only [Act.put, List.setIfInBounds_toArray, List.set_cons_zero, List.set_cons_succ]
      -- 13: t30 := move t5 : 3   [if ⟨11, false⟩]
      refine wpB_take (i := 13) (v := ?_) (get_of_drop rfl) (by kernel_rfl) (by kernel_rfl) (by kernel_rfl) (by kernel_rfl) (fun _ _ _ h => h) (Or.inl ⟨by rfl, ?_⟩) hHeld ?_
      rotate_left
      · (intro w hSw; (try dsimp only at hSw); go_simp <;> with_reducible rfl)
      try simp only [Act.put, List.setIfInBounds_toArray, List.set_cons_zero, List.set_cons_succ]
      -- 14: t31 := indexAddr 39 t29 t30 : 0   [if ⟨11, false⟩]
      refine wpB_take (i := 14) (v := ?_) (get_of_drop rfl) (by kernel_rfl) (by kernel_rfl) (by kernel_rfl) (by kernel_rfl) (fun _ _ _ h => h) (Or.inl ⟨by rfl, ?_⟩) hHeld ?_
      rotate_left
      · (intro w hSw; (try dsimp only at hSw); go_simp <;> with_reducible rfl)
      try simp only [Act.put, List.setIfInBounds_toArray, List.set_cons_zero, List.set_cons_succ]
      -- 15: t32 := fieldAddr 100 t31 1 : 0   [if ⟨11, false⟩]
      refine wpB_take (i := 15) (v := ?_) (get_of_drop rfl) (by kernel_rfl) (by kernel_rfl) (by kernel_rfl) (by kernel_rfl) (fun _ _ _ h => h) (Or.inl ⟨by rfl, ?_⟩) hHeld ?_
      rotate_left
      · (intro w hSw; (try dsimp only at hSw); go_simp <;> with_reducible rfl)
      try simp only [Act.put, List.setIfInBounds_toArray, List.set_cons_zero, List.set_cons_succ]
      -- 16: t33 := load 3 t32 : 3   [if ⟨11, false⟩]
      refine wpB_take (i := 16) (v := ?_) (get_of_drop rfl) (by kernel_rfl) (by kernel_rfl) (by kernel_rfl) (by kernel_rfl) (fun _ _ _ h => h) (Or.inl ⟨by rfl, ?_⟩) hHeld ?_
      rotate_left
      · (intro w hSw; (try dsimp only at hSw); go_simp <;> with_reducible rfl)
      try simp only [Act.put, List.setIfInBounds_toArray, List.set_cons_zero, List.set_cons_succ]
      -- 17: t34 := move t1 : 39   [if ⟨11, false⟩]
      refine wpB_take (i := 17) (v := ?_) (get_of_drop rfl) (by kernel_rfl) (by kernel_rfl) (by kernel_rfl) (by kernel_rfl) (fun _ _ _ h => h) (Or.inl ⟨by rfl, ?_⟩) hHeld ?_
      rotate_left
      · (intro w hSw; (try dsimp only at hSw); go_simp <;> with_reducible rfl)
      try simp only [Act.put, List.setIfInBounds_toArray, List.set_cons_zero, List.set_cons_succ]
      -- 18: t35 := move t5 : 3   [if ⟨11, false⟩]
      refine wpB_take (i := 18) (v := ?_) (get_of_drop rfl) (by kernel_rfl) (by kernel_rfl) (by kernel_rfl) (by kernel_rfl) (fun _ _ _ h => h) (Or.inl ⟨by rfl, ?_⟩) hHeld ?_
      rotate_left
      · (intro w hSw; (try dsimp only at hSw); go_simp <;> with_reducible rfl)
      try simp only [Act.put, List.setIfInBounds_toArray, List.set_cons_zero, List.set_cons_succ]
      -- 19: t36 := indexAddr 39 t34 t35 : 0   [if ⟨11, false⟩]
      refine wpB_take (i := 19) (v := ?_) (get_of_drop rfl) (by kernel_rfl) (by kernel_rfl) (by kernel_rfl) (by kernel_rfl) (fun _ _ _ h => h) (Or.inl ⟨by rfl, ?_⟩) hHeld ?_
      rotate_left
      · (intro w hSw; (try dsimp only at hSw); go_simp <;> with_reducible rfl)
      try simp only [Act.put, List.setIfInBounds_toArray, List.set_cons_zero, List.set_cons_succ]
      -- 20: t37 := fieldAddr 100 t36 1 : 0   [if ⟨11, false⟩]
      refine wpB_take (i := 20) (v := ?_) (get_of_drop rfl) (by kernel_rfl) (by kernel_rfl) (by kernel_rfl) (by kernel_rfl) (fun _ _ _ h => h) (Or.inl ⟨by rfl, ?_⟩) hHeld ?_
      rotate_left
      · (intro w hSw; (try dsimp only at hSw); go_simp <;> with_reducible rfl)
      try simp only [Act.put, List.setIfInBounds_toArray, List.set_cons_zero, List.set_cons_succ]
      -- 21: t38 := load 3 t37 : 3   [if ⟨11, false⟩]
      refine wpB_take (i := 21) (v := ?_) (get_of_drop rfl) (by kernel_rfl) (by kernel_rfl) (by kernel_rfl) (by kernel_rfl) (fun _ _ _ h => h) (Or.inl ⟨by rfl, ?_⟩) hHeld ?_
      rotate_left
      · (intro w hSw; (try dsimp only at hSw); go_simp <;> with_reducible rfl)
      try simp only [Act.put, List.setIfInBounds_toArray, List.set_cons_zero, List.set_cons_succ]
      -- 22: t39 := binOp BinOp.neq 3 t33 t38 3 : 4   [if ⟨11, false⟩]
      refine wpB_take (i := 22) (v := ?_) (get_of_drop rfl) (by kernel_rfl) (by kernel_rfl) (by kernel_rfl) (by kernel_rfl) (fun _ _ _ h => h) (Or.inl ⟨by rfl, ?_⟩) hHeld ?_
      rotate_left
      · (intro w hSw; (try dsimp only at hSw); go_simp <;> with_reducible rfl)
      try simp only [Act.put, List.setIfInBounds_toArray, List.set_cons_zero, List.set_cons_succ]
      -- 23: t40 := pick t28 #true t39 : 4
      refine wpB_take (i := 23) (v := ?_) (get_of_drop rfl) (by kernel_rfl) (by kernel_rfl) (by kernel_rfl) (by kernel_rfl) (fun _ _ _ h => h) (Or.inl ⟨by rfl, ?_⟩) hHeld ?_
      rotate_left
      · (intro w hSw; (try dsimp only at hSw); go_simp <;> with_reducible rfl)
      try simp only [Act.put, List.setIfInBounds_toArray, List.set_cons_zero, List.set_cons_succ]
      -- 24: t41 := move t40 : 4
      refine wpB_take (i := 24) (v := ?_) (get_of_drop rfl) (by kernel_rfl) (by kernel_rfl) (by kernel_rfl) (by kernel_rfl) (fun _ _ _ h => h) (Or.inl ⟨by rfl, ?_⟩) hHeld ?_
      rotate_left
      · (intro w hSw; (try dsimp only at hSw); go_simp <;> with_reducible rfl)
      try simp only [Act.put, List.setIfInBounds_toArray, List.set_cons_zero, List.set_cons_succ]
      -- 25: t42 := move t0 : 39   [if ⟨24, false⟩]
      refine wpB_take (i := 25) (v := ?_) (get_of_drop rfl) (by kernel_rfl) (by kernel_rfl) (by kernel_rfl) (by kernel_rfl) (fun _ _ _ h => h) (Or.inl ⟨by rfl, ?_⟩) hHeld ?_
      rotate_left
      · (intro w hSw; (try dsimp only at hSw); go_simp <;> with_reducible rfl)
      try simp only [Act.put, List.setIfInBounds_toArray, List.set_cons_zero, List.set_cons_succ]
      -- 26: t43 := move t5 : 3   [if ⟨24, false⟩]
      refine wpB_take (i := 26) (v := ?_) (get_of_drop rfl) (by kernel_rfl) (by kernel_rfl) (by kernel_rfl) (by kernel_rfl) (fun _ _ _ h => h) (Or.inl ⟨by rfl, ?_⟩) hHeld ?_
      rotate_left
      · (intro w hSw; (try dsimp only at hSw); go_simp <;> with_reducible rfl)
      try simp only [Act.put, List.setIfInBounds_toArray, List.set_cons_zero, List.set_cons_succ]
      -- 27: t44 := indexAddr 39 t42 t43 : 0   [if ⟨24, false⟩]
      refine wpB_take (i := 27) (v := ?_) (get_of_drop rfl) (by kernel_rfl) (by kernel_rfl) (by kernel_rfl) (by kernel_rfl) (fun _ _ _ h => h) (Or.inl ⟨by rfl, ?_⟩) hHeld ?_
      rotate_left
      · (intro w hSw; (try dsimp only at hSw); go_simp <;> with_reducible rfl)
      try simp only [Act.put, List.setIfInBounds_toArray, List.set_cons_zero, List.set_cons_succ]
      -- 28: t45 := fieldAddr 100 t44 2 : 0   [if ⟨24, false⟩]
      refine wpB_take (i := 28) (v := ?_) (get_of_drop rfl) (by kernel_rfl) (by kernel_rfl) (by kernel_rfl) (by kernel_rfl) (fun _ _ _ h => h) (Or.inl ⟨by rfl, ?_⟩) hHeld ?_
      rotate_left
      · (intro w hSw; (try dsimp only at hSw); go_simp <;> with_reducible rfl)
      try simp only [Act.put, List.setIfInBounds_toArray, List.set_cons_zero, List.set_cons_succ]
      -- 29: t46 := load 3 t45 : 3   [if ⟨24, false⟩]
      refine wpB_take (i := 29) (v := ?_) (get_of_drop rfl) (by kernel_rfl) (by kernel_rfl) (by kernel_rfl) (by kernel_rfl) (fun _ _ _ h => h) (Or.inl ⟨by rfl, ?_⟩) hHeld ?_
      rotate_left
      · (intro w hSw; (try dsimp only at hSw); go_simp <;> with_reducible rfl)
      try simp only [Act.put, List.setIfInBounds_toArray, List.set_cons_zero, List.set_cons_succ]
      -- 30: t47 := move t1 : 39   [if ⟨24, false⟩]
      refine wpB_take (i := 30) (v := ?_) (get_of_drop rfl) (by kernel_rfl) (by kernel_rfl) (by kernel_rfl) (by kernel_rfl) (fun _ _ _ h => h) (Or.inl ⟨by rfl, ?_⟩) hHeld ?_
      rotate_left
      · (intro w hSw; (try dsimp only at hSw); go_simp <;> with_reducible rfl)
      try simp only [Act.put, List.setIfInBounds_toArray, List.set_cons_zero, List.set_cons_succ]
      -- 31: t48 := move t5 : 3   [if ⟨24, false⟩]
      refine wpB_take (i := 31) (v := ?_) (get_of_drop rfl) (by kernel_rfl) (by kernel_rfl) (by kernel_rfl) (by kernel_rfl) (fun _ _ _ h => h) (Or.inl ⟨by rfl, ?_⟩) hHeld ?_
      rotate_left
      · (intro w hSw; (try dsimp only at hSw); go_simp <;> with_reducible rfl)
      try simp only [Act.put, List.setIfInBounds_toArray, List.set_cons_zero, List.set_cons_succ]
      -- 32: t49 := indexAddr 39 t47 t48 : 0   [if ⟨24, false⟩]
      refine wpB_take (i := 32) (v := ?_) (get_of_drop rfl) (by kernel_rfl) (by kernel_rfl) (by kernel_rfl) (by kernel_rfl) (fun _ _ _ h => h) (Or.inl ⟨by rfl, ?_⟩) hHeld ?_
      rotate_left
      · (intro w hSw; (try dsimp only at hSw); go_simp <;> with_reducible rfl)
      try simp only [Act.put, List.setIfInBounds_toArray, List.set_cons_zero, List.set_cons_succ]
      -- 33: t50 := fieldAddr 100 t49 2 : 0   [if ⟨24, false⟩]
      refine wpB_take (i := 33) (v := ?_) (get_of_drop rfl) (by kernel_rfl) (by kernel_rfl) (by kernel_rfl) (by kernel_rfl) (fun _ _ _ h => h) (Or.inl ⟨by rfl, ?_⟩) hHeld ?_
      rotate_left
      · (intro w hSw; (try dsimp only at hSw); go_simp <;> with_reducible rfl)
      try simp only [Act.put, List.setIfInBounds_toArray, List.set_cons_zero, List.set_cons_succ]
      -- 34: t51 := load 3 t50 : 3   [if ⟨24, false⟩]
      refine wpB_take (i := 34) (v := ?_) (get_of_drop rfl) (by kernel_rfl) (by kernel_rfl) (by kernel_rfl) (by kernel_rfl) (fun _ _ _ h => h) (Or.inl ⟨by rfl, ?_⟩) hHeld ?_
      rotate_left
      · (intro w hSw; (try dsimp only at hSw); go_simp <;> with_reducible rfl)
      try simp only [Act.put, List.setIfInBounds_toArray, List.set_cons_zero, List.set_cons_succ]
      -- 35: t52 := binOp BinOp.neq 3 t46 t51 3 : 4   [if ⟨24, false⟩]
      refine wpB_take (i := 35) (v := ?_) (get_of_drop rfl) (by kernel_rfl) (by kernel_rfl) (by kernel_rfl) (by kernel_rfl) (fun _ _ _ h => h) (Or.inl ⟨by rfl, ?_⟩) hHeld ?_
      rotate_left
      · (intro w hSw; (try dsimp only at hSw); go_simp <;> with_reducible rfl)
      try simp only [Act.put, List.setIfInBounds_toArray, List.set_cons_zero, List.set_cons_succ]
      -- 36: t53 := pick t41 #true t52 : 4
      refine wpB_take (i := 36) (v := ?_) (get_of_drop rfl) (by kernel_rfl) (by kernel_rfl) (by kernel_rfl) (by kernel_rfl) (fun _ _ _ h => h) (Or.inl ⟨by rfl, ?_⟩) hHeld ?_
      rotate_left
      · (intro w hSw; (try dsimp only at hSw); go_simp <;> with_reducible rfl)
      try simp only [Act.put, List.setIfInBounds_toArray, List.set_cons_zero, List.set_cons_succ]
      -- 37: t54 := move t53 : 4
      refine wpB_take (i := 37) (v := ?_) (get_of_drop rfl) (by kernel_rfl) (by kernel_rfl) (by kernel_rfl) (by kernel_rfl) (fun _ _ _ h => h) (Or.inl ⟨by rfl, ?_⟩) hHeld ?_
      rotate_left
      · (intro w hSw; (try dsimp only at hSw); go_simp <;> with_reducible rfl)
      try simp only [Act.put, List.setIfInBounds_toArray, List.set_cons_zero, List.set_cons_succ]
      -- 38: t55 := move t0 : 39   [if ⟨37, false⟩]
      refine wpB_take (i := 38) (v := ?_) (get_of_drop rfl) (by kernel_rfl) (by kernel_rfl) (by kernel_rfl) (by kernel_rfl) (fun _ _ _ h => h) (Or.inl ⟨by rfl, ?_⟩) hHeld ?_
      rotate_left
      · (intro w hSw; (try dsimp only at hSw); go_simp <;> with_reducible rfl)
      try simp only [Act.put, List.setIfInBounds_toArray, List.set_cons_zero, List.set_cons_succ]
      -- 39: t56 := move t5 : 3   [if ⟨37, false⟩]
      refine wpB_take (i := 39) (v := ?_) (get_of_drop rfl) (by kernel_rfl) (by kernel_rfl) (by kernel_rfl) (by kernel_rfl) (fun _ _ _ h => h) (Or.inl ⟨by rfl, ?_⟩) hHeld ?_
      rotate_left
      · (intro w hSw; (try dsimp only at hSw); go_simp <;> with_reducible rfl)
      try simp only [Act.put, List.setIfInBounds_toArray, List.set_cons_zero, List.set_cons_succ]
      -- 40: t57 := indexAddr 39 t55 t56 : 0   [if ⟨37, false⟩]
      refine wpB_take (i := 40) (v := ?_) (get_of_drop rfl) (by kernel_rfl) (by kernel_rfl) (by kernel_rfl) (by kernel_rfl) (fun _ _ _ h => h) (Or.inl ⟨by rfl, ?_⟩) hHeld ?_
      rotate_left
      · (intro w hSw; (try dsimp only at hSw); go_simp <;> with_reducible rfl)
      try simp only [Act.put, List.setIfInBounds_toArray, List.set_cons_zero, List.set_cons_succ]
      -- 41: t58 := fieldAddr 100 t57 3 : 0   [if ⟨37, false⟩]
      refine wpB_take (i := 41) (v := ?_) (get_of_drop rfl) (by kernel_rfl) (by kernel_rfl) (by kernel_rfl) (by kernel_rfl) (fun _ _ _ h => h) (Or.inl ⟨by rfl, ?_⟩) hHeld ?_
      rotate_left
      · (intro w hSw; (try dsimp only at hSw); go_simp <;> with_reducible rfl)
      try simp only [Act.put, List.setIfInBounds_toArray, List.set_cons_zero, List.set_cons_succ]
      -- 42: t59 := load 98 t58 : 98   [if ⟨37, false⟩]
      refine wpB_take (i := 42) (v := ?_) (get_of_drop rfl) (by kernel_rfl) (by kernel_rfl) (by kernel_rfl) (by kernel_rfl) (fun _ _ _ h => h) (Or.inl ⟨by rfl, ?_⟩) hHeld ?_
      rotate_left
      · (intro w hSw; (try dsimp only at hSw); go_simp <;> with_reducible rfl)
      try simp only [Act.put, List.setIfInBounds_toArray, List.set_cons_zero, List.set_cons_succ]
      -- 43: t60 := move t1 : 39   [if ⟨37, false⟩]
      refine wpB_take (i := 43) (v := ?_) (get_of_drop rfl) (by kernel_rfl) (by kernel_rfl) (by kernel_rfl) (by kernel_rfl) (fun _ _ _ h => h) (Or.inl ⟨by rfl, ?_⟩) hHeld ?_
      rotate_left
      · (intro w hSw; (try dsimp only at hSw); go_simp <;> with_reducible rfl)
      try simp only [Act.put, List.setIfInBounds_toArray, List.set_cons_zero, List.set_cons_succ]
      -- 44: t61 := move t5 : 3   [if ⟨37, false⟩]
      refine wpB_take (i := 44) (v := ?_) (get_of_drop rfl) (by kernel_rfl) (by kernel_rfl) (by kernel_rfl) (by kernel_rfl) (fun _ _ _ h => h) (Or.inl ⟨by rfl, ?_⟩) hHeld ?_
      rotate_left
      · (intro w hSw; (try dsimp only at hSw); go_simp <;> with_reducible rfl)
      try simp only [Act.put, List.setIfInBounds_toArray, List.set_cons_zero, List.set_cons_succ]
      -- 45: t62 := indexAddr 39 t60 t61 : 0   [if ⟨37, false⟩]
      refine wpB_take (i := 45) (v := ?_) (get_of_drop rfl) (by kernel_rfl) (by kernel_rfl) (by kernel_rfl) (by kernel_rfl) (fun _ _ _ h => h) (Or.inl ⟨by rfl, ?_⟩) hHeld ?_
      rotate_left
      · (intro w hSw; (try dsimp only at hSw); go_simp <;> with_reducible rfl)
      try simp only [Act.put, List.setIfInBounds_toArray, List.set_cons_zero, List.set_cons_succ]
      -- 46: t63 := fieldAddr 100 t62 3 : 0   [if ⟨37, false⟩]
      refine wpB_take (i := 46) (v := ?_) (get_of_drop rfl) (by kernel_rfl) (by kernel_rfl) (by kernel_rfl) (by kernel_rfl) (fun _ _ _ h => h) (Or.inl ⟨by rfl, ?_⟩) hHeld ?_
      rotate_left
      · (intro w hSw; (try dsimp only at hSw); go_simp <;> with_reducible rfl)
      try simp only [Act.put, List.setIfInBounds_toArray, List.set_cons_zero, List.set_cons_succ]
      -- 47: t64 := load 98 t63 : 98   [if ⟨37, false⟩]
      refine wpB_take (i := 47) (v := ?_) (get_of_drop rfl) (by kernel_rfl) (by kernel_rfl) (by kernel_rfl) (by kernel_rfl) (fun _ _ _ h => h) (Or.inl ⟨by rfl, ?_⟩) hHeld ?_
      rotate_left
      · (intro w hSw; (try dsimp only at hSw); go_simp <;> with_reducible rfl)
      try simp only [Act.put, List.setIfInBounds_toArray, List.set_cons_zero, List.set_cons_succ]
      -- 48: t65 := CALL fn61(t59, t64) : 4   [if ⟨37, false⟩]
      refine wpB_act (i := 48) (by kernel_rfl) (get_of_drop rfl) (fun K hK => ?_)
      go_simp
      refine (samedelta_any (e := x) (d := y) (HRX.out.chg hHeld (fun _ _ h => h)) (HRY.out.chg hHeld (fun _ _ h => h))).mono ?_
      rintro e w2 ⟨rfl, h2⟩
      rw [← GE.out]
      refine hK.out _ _ ?_ (fun hHeld2 => ?_)
      · (first | assumption | exact (Chg.drew (Chg.refl _ _)).trans h2 (fun _ h _ => h) | exact hHeld.trans h2 (fun _ h _ => h))
      clear hHeld hK K
      have hHeld := hHeld2
      clear hHeld2
      try simp only [Act.put, List.setIfInBounds_toArray, List.set_cons_zero, List.set_cons_succ]
      -- 49: t66 := unOp UnOp.not 4 t65 : 4   [if ⟨37, false⟩]
      refine wpB_take (i := 49) (v := ?_) (get_of_drop rfl) (by kernel_rfl) (by kernel_rfl) (by kernel_rfl) (by kernel_rfl) (fun _ _ _ h => h) (Or.inl ⟨by rfl, ?_⟩) hHeld ?_
      rotate_left
      · (intro w hSw; (try dsimp only at hSw); go_simp <;> with_reducible rfl)
      try simp only [Act.put, List.setIfInBounds_toArray, List.set_cons_zero, List.set_cons_succ]
      -- 50: t67 := pick t54 #true t66 : 4
      refine wpB_take (i := 50) (v := ?_) (get_of_drop rfl) (by kernel_rfl) (by kernel_rfl) (by kernel_rfl) (by kernel_rfl) (fun _ _ _ h => h) (Or.inl ⟨by rfl, ?_⟩) hHeld ?_
      rotate_left
      · (intro w hSw; (try dsimp only at hSw); go_simp <;> with_reducible rfl)
      try simp only [Act.put, List.setIfInBounds_toArray, List.set_cons_zero, List.set_cons_succ]
      refine wpB_done (by kernel_rfl) ?_ _
      have C2 := hid (HC.out.trans hHeld (fun _ h _ => h))
      clear hHeld h2 ux0 uy0 ux1 uy1 ux2 uy2 ux3 uy3 ux4 uy4 ux5 uy5 ux6 uy6 ux7 uy7 ux8 uy8 bg0 bg1 bg2 x0 y0 x1 y1 x2 y2 x3 y3 x4 y4 x5 y5 x6 y6 x7 y7 x8 y8 HX9
      cases g : decide (x = y)
      · have HN := hid (NE.out (of_decide_eq_false g))
        clear g
        go_wp2_with fail
        go_ret
        exact ⟨by rw [decide_eq_false HN.out]; rfl, C2.out⟩
      · have HN := hid (show xs.take (k + 1) = ys.take (k + 1) by rw [TX.out, TY.out, HE.out, of_decide_eq_true g])
        clear g
        go_wp2_with fail
        go_roundw
        case measure => simp [intOf]; omega
        case rel => first | exact ⟨k + 1, hlt, by go_num, HN.out, C2.out⟩ | ((repeat apply Exists.intro); exact ⟨⟨k + 1, hlt, by go_num, HN.out, C2.out⟩, rfl⟩)
    · have hkn : ¬ (k : Int) < (n : Int) := by omega
      clear hC
      go_wp2_with fail
      go_ret
      have e := HE.out
      rw [List.take_of_length_le (by have := LX.out; omega), List.take_of_length_le (by have := LY.out; omega)] at e
      exact ⟨by rw [decide_eq_true e]; rfl, HC.out⟩
end Go.Proofs.Ytfpjickdkkhndaa.Pa


/- The document's reader: its num and count. -/

namespace Go.Proofs.Ytfpjickdkkhndaa.Pa

set_option linter.unusedVariables false

set_option linter.unusedSimpArgs false

open Go.RowKit Go.Proofs.Ytfpjickdkkhndaa.C

attribute [local go_sem] max2_int min2_int max_two min_two

/-- The document's reader, at block g, of the bytes b, which lie below B. -/
structure Rf (w : World) (B g : Nat) (A : Option Addr) (n c : Nat) (b : List UInt8) (at_ : Nat) (bad : Bool) : Prop where
  low : B ≤ g
  blk : w.heap[g]? = some (.cells #[.slice A n c, .int .i64 (at_ : Int), .bool bad] 118 (0, 0))
  row : Ty.At Ty.u8 w (fun k => k < B) A n c b
  le : at_ ≤ n
theorem Rf.cells {w : World} {B g : Nat} {A : Option Addr} {n c : Nat} {b : List UInt8} {at_ : Nat} {bad : Bool} (h : Rf w B g A n c b at_ bad) :
    w.cell? ⟨g, 0, none⟩ = some (.slice A n c) ∧ w.cell? ⟨g, 1, none⟩ = some (.int .i64 (at_ : Int)) ∧ w.cell? ⟨g, 2, none⟩ = some (.bool bad) := by
  refine ⟨?_, ?_, ?_⟩ <;> (rw [cellAt h.blk]; rfl)
theorem Rf.lt {w : World} {B g : Nat} {A : Option Addr} {n c : Nat} {b : List UInt8} {at_ : Nat} {bad : Bool} (h : Rf w B g A n c b at_ bad) : g < w.heap.size := lt_of_blk h.blk
theorem Rf.chg {w w' : World} {B g : Nat} {A : Option Addr} {n c : Nat} {b : List UInt8} {at_ : Nat} {bad : Bool} {M : Nat → Prop} (h : Rf w B g A n c b at_ bad) (hc : Chg M w w') (hM : ∀ k, M k → B ≤ k) (hg : ¬ M g) : Rf w' B g A n c b at_ bad :=
  ⟨h.low, hc.blk h.blk hg, h.row.chg hc (fun k hk hm => by have := hM k hm; omega), h.le⟩
theorem Rf.drewN {w : World} {B g : Nat} {A : Option Addr} {n c : Nat} {b : List UInt8} {at_ : Nat} {bad : Bool} (h : Rf w B g A n c b at_ bad) (q : Nat) : Rf (w.drewN q) B g A n c b at_ bad := h.chg ((Chg.refl (fun _ => False) w).drewN q) (fun _ h => h.elim) (fun h => h)
theorem Rf.setBad {w : World} {B g : Nat} {A : Option Addr} {n c : Nat} {b : List UInt8} {at_ : Nat} {bad : Bool} (h : Rf w B g A n c b at_ bad) (y : Bool) : Rf (w.setCell ⟨g, 2, none⟩ (.bool y)) B g A n c b at_ y :=
  ⟨h.low, blk_set h.blk 2 _, h.row.chg ((Chg.refl (fun k => k = g) w).set (p := ⟨g, 2, none⟩) (fun _ => rfl) _) (fun k hk e => by have := h.low; subst e; omega), h.le⟩
theorem Rf.setAt {w : World} {B g : Nat} {A : Option Addr} {n c : Nat} {b : List UInt8} {at_ : Nat} {bad : Bool} (h : Rf w B g A n c b at_ bad) {q : Nat} (hq : q ≤ n) : Rf (w.setCell ⟨g, 1, none⟩ (.int .i64 (q : Int))) B g A n c b q bad :=
  ⟨h.low, blk_set h.blk 1 _, h.row.chg ((Chg.refl (fun k => k = g) w).set (p := ⟨g, 1, none⟩) (fun _ => rfl) _) (fun k hk e => by have := h.low; subst e; omega), hq⟩
theorem chg_at (g i : Nat) (v : Value) (w : World) : Chg (fun k => k = g) w (w.setCell ⟨g, i, none⟩ v) := (Chg.refl (fun k => k = g) w).set (p := ⟨g, i, none⟩) (fun _ => rfl) v
/-- Something was read by rd. -/
def RfTo {α : Type} (B g : Nat) (A : Option Addr) (n c : Nat) (b : List UInt8) (at_ : Nat) (bad : Bool) (rd : List UInt8 → Option (α × List UInt8)) (w' : World) (x : α) : Prop :=
  ∃ at' bad', Rf w' B g A n c b at' bad' ∧ (left b at_ bad).bind rd = (left b at' bad').map fun r => (x, r)
def RfNum (w : World) (B g : Nat) (A : Option Addr) (n c : Nat) (b : List UInt8) (at_ : Nat) (bad : Bool) (e : Ending) (w' : World) : Prop :=
  ∃ u : Int, e = .returned (.int .i64 u) ∧ (Lit.int .i64 u).wf = true ∧ Chg (fun k => k = g) w w' ∧ RfTo B g A n c b at_ bad rdNum w' u

set_option maxHeartbeats 2000000 in
set_option maxRecDepth 100000 in
theorem refnum_r {w : World} {B g : Nat} {A : Option Addr} {n c : Nat} {b : List UInt8} {at_ : Nat} {bad : Bool} (h : Rf w B g A n c b at_ bad) (hn : n ≤ 1000000) :
    Calls Try.prog 64 #[.pointer (some ⟨g, 0, none⟩)] w (RfNum w B g A n c b at_ bad) := by
  have H := hid h
  have hn2 : (n : Int) ≤ 1000000 := by omega
  have hle := h.le
  obtain ⟨d0, d1, d2⟩ := h.cells
  have f2 : w.frozen? ⟨g, 2, none⟩ = false := freeAt h.blk 2
  clear h
  cases bad with
  | true =>
    go_enter Try.func64, Try.ntmps64
    go_wp2_with fail
    go_quiet (fail)
    go_wp2_with fail
    go_ret
    exact ⟨0, rfl, by decide, (((Chg.refl (fun k => k = g) w).drewN nq)).trans (chg_at g 2 _ _) (fun _ h _ => h), at_, true, (H.out.drewN nq).setBad true, rfl⟩
  | false =>
    have e6 : IntKind.i64.wrap ((n : Int) - (at_ : Int)) = (n : Int) - (at_ : Int) := IntWalk.i64_in _ (by omega)
    by_cases h6 : (n : Int) - (at_ : Int) < 6
    · go_enter Try.func64, Try.ntmps64
      go_wp2_with fail
      go_quiet (fail)
      go_wp2_with fail
      go_ret
      refine ⟨0, rfl, by decide, (((Chg.refl (fun k => k = g) w).drewN nq)).trans (chg_at g 2 _ _) (fun _ h _ => h), at_, true, (H.out.drewN nq).setBad true, ?_⟩
      rw [left_some, Option.bind_some, left_none, Option.map_none]
      unfold rdNum
      rw [if_pos (by have := H.out.row.1; rw [List.length_drop]; omega)]
    · go_enter Try.func64, Try.ntmps64
      go_wp2_with fail
      go_quiet (fail)
      clear e6
      go_wp2_with fail
      have H3 := hid (H.out.drewN nq)
      have C3 := hid ((Chg.refl (fun k => k = g) w).drewN nq)
      obtain ⟨w3, hw3⟩ : ∃ w3, w3 = w.drewN nq := ⟨_, rfl⟩
      rw [← hw3] at H3 C3 ⊢
      have H6 := hid (show ((b.drop at_).take 6).length = 6 by have := H3.out.row.1; rw [List.length_take, List.length_drop]; omega)
      clear hw3 d0 d1 d2 f2
      go_loopw [3, 4] (fun acc i wr => ∃ j : Nat, j ≤ 6 ∧ i = .int .i64 j ∧ acc = .int .i64 (val (((b.drop at_).take 6).take j) : Int) ∧ Rf wr B g A n c b at_ false ∧ Chg (fun k => k = g) w wr) (fun _ i _ => 6 - (intOf i).toNat)
      case atStart => exact ⟨0, Nat.zero_le _, rfl, rfl, H3.out, C3.out⟩
      case round =>
        obtain ⟨j, hj, rfl, rfl, hR, hC⟩ := hrel
        have HR := hid hR
        have HC := hid hC
        obtain ⟨d0, d1, d2⟩ := hR.cells
        obtain ⟨q, hq⟩ : ∃ q, q = val (((b.drop at_).take 6).take j) := ⟨_, rfl⟩
        have HQ := hid hq
        have hq48 : q < 281474976710656 := by rw [hq]; exact val_take_lt _ hj
        rw [← hq]
        clear hq hR hC
        by_cases hjl : j < 6
        · obtain ⟨y, hy⟩ : ∃ y, b[at_ + j]? = some y := ⟨_, List.getElem?_eq_getElem (by have := HR.out.row.1; omega)⟩
          obtain ⟨a6, ha6, _, hc6⟩ := Ty.byteAt HR.out.row hy
          subst ha6
          have hyl := y.toNat_lt
          have HY := hid (show ((b.drop at_).take 6)[j]? = some y by rw [List.getElem?_take, if_pos hjl, List.getElem?_drop]; exact hy)
          have hq40 : q < 1099511627776 := by rw [HQ.out]; exact val_take_lt2 _ hjl
          have ea : IntKind.i64.wrap ((at_ : Int) + (j : Int)) = ((at_ + j : Nat) : Int) := by rw [IntWalk.i64_in _ (by omega)]; rfl
          have e1 : IntKind.i64.wrap ((q : Int) * 256) = (q : Int) * 256 := IntWalk.i64_in _ (by omega)
          have e2 : IntKind.i64.wrap ((q : Int) * 256 + (y.toNat : Int)) = ((q * 256 + y.toNat : Nat) : Int) := by rw [IntWalk.i64_in _ (by omega)]; rfl
          have hb1 : ((at_ + j : Nat) : Int) < (n : Int) := by omega
          clear hy hq48
          go_wp2_with fail
          go_quiet (fail)
          clear ea e1 e2 hb1
          have HN := hid (HR.out.drewN nq)
          have HNC := hid (HC.out.drewN nq)
          go_wp2_with fail
          have hacc : Value.int .i64 ((q : Int) * 256 + (y.toNat : Int)) = .int .i64 (val (((b.drop at_).take 6).take (j + 1)) : Int) := by
            rw [List.take_add_one, HY.out, Option.toList_some, val_snoc, ← HQ.out]
            rfl
          go_roundw
          case measure => simp [intOf]; omega
          case rel => first | exact ⟨j + 1, by omega, by go_num, hacc, HN.out, HNC.out⟩ | ((repeat apply Exists.intro); exact ⟨⟨j + 1, by omega, by go_num, hacc, HN.out, HNC.out⟩, rfl⟩)
        · obtain rfl : j = 6 := by omega
          have ev : IntKind.i64.wrap ((q : Int) - 1) = (q : Int) - 1 := IntWalk.i64_in _ (by omega)
          have ea : IntKind.i64.wrap ((at_ : Int) + 6) = (at_ : Int) + 6 := IntWalk.i64_in _ (by omega)
          have f1 : wr.frozen? ⟨g, 1, none⟩ = false := freeAt HR.out.blk 1
          have HF := hid (show RfTo B g A n c b at_ false rdNum (wr.setCell ⟨g, 1, none⟩ (.int .i64 ((at_ : Int) + 6))) ((q : Int) - 1) from by
            refine ⟨at_ + 6, false, HR.out.setAt (q := at_ + 6) (by omega), ?_⟩
            rw [left_some, left_some, Option.bind_some, Option.map_some]
            unfold rdNum
            rw [if_neg (by have := HR.out.row.1; rw [List.length_drop]; omega), List.drop_drop, HQ.out, List.take_take]
            rfl)
          clear h6
          go_wp2_with fail
          go_ret
          exact ⟨(q : Int) - 1, rfl, int_wf (by omega) (by omega), HC.out.trans (chg_at g 1 _ _) (fun _ h _ => h), HF.out⟩

def RfCount (w : World) (B g : Nat) (A : Option Addr) (n c : Nat) (b : List UInt8) (at_ : Nat) (bad : Bool) (e : Ending) (w' : World) : Prop :=
  ∃ q : Nat, e = .returned (.int .i64 (q : Int)) ∧ q ≤ n ∧ Chg (fun k => k = g) w w' ∧ RfTo B g A n c b at_ bad (rdCountL 1) w' q
theorem rdCount_of {L : Nat} {X Y : Option (List UInt8)} {u : Int} (h : X.bind rdNum = Y.map fun r => (u, r)) : X.bind (rdCountL L) = Y.bind fun r => if u < 0 ∨ (((r.length / L : Nat)) : Int) < u then none else some (u.toNat, r) := by
  have e : X.bind (rdCountL L) = (X.bind rdNum).bind fun r => if r.1 < 0 ∨ (((r.2.length / L : Nat)) : Int) < r.1 then none else some (r.1.toNat, r.2) := by cases X <;> rfl
  rw [e, h]
  cases Y <;> rfl
theorem Rf.stops {w : World} {B g : Nat} {A : Option Addr} {n c : Nat} {b : List UInt8} {at' : Nat} {bad' : Bool} (h : Rf w B g A n c b at' bad') {at_ : Nat} {bad : Bool} {u : Int} (he : (left b at_ bad).bind (rdCountL 1) = (left b at' bad').bind fun r => if u < 0 ∨ (((r.length / 1 : Nat)) : Int) < u then none else some (u.toNat, r))
    (hc : bad' = true ∨ u < 0 ∨ (n : Int) - (at' : Int) < u) (q x : Nat) : RfTo B g A n c b at_ bad (rdCountL 1) ((w.drewN q).setCell ⟨g, 2, none⟩ (.bool true)) x := by
  refine ⟨at', true, (h.drewN q).setBad true, ?_⟩
  rw [he, left_none, Option.map_none]
  cases bad' with
  | true => rfl
  | false =>
    rw [left_some, Option.bind_some, if_pos]
    have h1 := h.row.1
    have h2 := h.le
    rcases hc with hc | hc | hc
    · cases hc
    · exact .inl hc
    · exact .inr (by rw [List.length_drop, Nat.div_one, ← h1]; omega)
set_option maxHeartbeats 2000000 in
set_option maxRecDepth 100000 in
theorem refcount_r {w : World} {B g : Nat} {A : Option Addr} {n c : Nat} {b : List UInt8} {at_ : Nat} {bad : Bool} (h : Rf w B g A n c b at_ bad) (hn : n ≤ 1000000) :
    Calls Try.prog 79 #[.pointer (some ⟨g, 0, none⟩)] w (RfCount w B g A n c b at_ bad) := by
  have H := hid h
  have hn2 : (n : Int) ≤ 1000000 := by omega
  clear h
  go_enter Try.func79, Try.ntmps79
  go_wp2_with fail
  refine (refnum_r H.out hn).mono ?_
  rintro e w1 ⟨u, rfl, hw, hc, at', bad', hr, heq⟩
  have HC := hid hc
  have HR := hid hr
  have HE := hid (rdCount_of (L := 1) heq)
  have hub := wf64 hw
  have hle := hr.le
  obtain ⟨d0, d1, d2⟩ := hr.cells
  have f2 : w1.frozen? ⟨g, 2, none⟩ = false := freeAt hr.blk 2
  clear hw hc hr heq
  have hc1 : ∀ nq, Chg (fun j => j = g) w ((w1.drewN nq).setCell ⟨g, 2, none⟩ (.bool true)) := fun nq => (HC.out.drewN nq).trans (chg_at g 2 _ _) (fun _ h _ => h)
  have HC1 := hid hc1
  clear hc1
  cases bad' with
  | true =>
    go_wp2_with fail
    go_quiet (fail)
    go_wp2_with fail
    go_ret
    exact ⟨0, rfl, Nat.zero_le _, HC1.out _, HR.out.stops HE.out (.inl rfl) _ _⟩
  | false =>
    have e6 : IntKind.i64.wrap ((n : Int) - (at' : Int)) = (n : Int) - (at' : Int) := IntWalk.i64_in _ (by omega)
    by_cases hu0 : u < 0
    · go_wp2_with fail
      go_quiet (fail)
      go_wp2_with fail
      go_ret
      exact ⟨0, rfl, Nat.zero_le _, HC1.out _, HR.out.stops HE.out (.inr (.inl hu0)) _ _⟩
    by_cases hcd : (n : Int) - (at' : Int) < u
    · go_wp2_with fail
      go_quiet (fail)
      go_wp2_with fail
      go_ret
      exact ⟨0, rfl, Nat.zero_le _, HC1.out _, HR.out.stops HE.out (.inr (.inr hcd)) _ _⟩
    · go_wp2_with fail
      go_quiet (fail)
      go_wp2_with fail
      go_ret
      refine ⟨u.toNat, ?_, by omega, HC.out.drewN _, at', false, HR.out.drewN _, ?_⟩
      · rw [Int.toNat_of_nonneg (by omega)]
        rfl
      · have q1 := HE.out
        have h1 := HR.out.row.1
        rw [left_some, Option.bind_some, if_neg (by rw [List.length_drop, Nat.div_one, ← h1]; omega)] at q1
        exact q1
end Go.Proofs.Ytfpjickdkkhndaa.Pa


/- The document's reader: its rule. -/

namespace Go.Proofs.Ytfpjickdkkhndaa.Pa

set_option linter.unusedVariables false

set_option linter.unusedSimpArgs false

open Go.RowKit Go.Proofs.Ytfpjickdkkhndaa.C

attribute [local go_sem] max2_int min2_int max_two min_two

theorem rdZero {X : Option (List UInt8)} : X.bind (rdList rdNum 0) = X.map fun r => ([], r) := by cases X <;> rfl
/-- One number more. -/
theorem rdMore {X Y Z : Option (List UInt8)} {k : Nat} {us : List Int} {u : Int} (h : X.bind (rdList rdNum k) = Y.map fun r => (us, r)) (h2 : Y.bind rdNum = Z.map fun r => (u, r)) : X.bind (rdList rdNum (k + 1)) = Z.map fun r => (us ++ [u], r) := by
  rw [rdList_step h, h2]
  cases Z <;> rfl
theorem put_blk {g : Nat} {e : TypeId} (vs : List Value) (w : World) (cur : Array Value) (h : w.heap[g]? = some (.cells cur e (0, 0))) (hl : vs.length = cur.size) : (w.setCells g 0 vs).heap[g]? = some (.cells vs.toArray e (0, 0)) ∧ Chg (fun k => k = g) w (w.setCells g 0 vs) := by
  obtain ⟨cur', h1, h2⟩ := setCells_row vs 0 w cur h (by omega)
  refine ⟨?_, setCells_chg g vs 0 w⟩
  have e : cur' = vs.toArray := by
    apply Array.ext'
    rw [h2]
    simp [hl]
  rw [h1, e]
def RfRule (w : World) (B g : Nat) (A : Option Addr) (n c : Nat) (b : List UInt8) (at_ : Nat) (bad : Bool) (e : Ending) (w' : World) : Prop :=
  ∃ r : Rule, RuleWf r ∧ e = .returned (.agg (ruleCells r).toArray) ∧ Chg (fun k => k = g) w w' ∧ RfTo B g A n c b at_ bad rdRule w' r

set_option maxHeartbeats 4000000 in
set_option maxRecDepth 100000 in
theorem refrule_r {w : World} {B g : Nat} {A : Option Addr} {n c : Nat} {b : List UInt8} {at_ : Nat} {bad : Bool} (h : Rf w B g A n c b at_ bad) (hn : n ≤ 1000000) :
    Calls Try.prog 91 #[.pointer (some ⟨g, 0, none⟩)] w (RfRule w B g A n c b at_ bad) := by
  have H := hid h
  have HG := hid h.lt
  have hn2 : (n : Int) ≤ 1000000 := by omega
  obtain ⟨w0, hw0⟩ : ∃ w0, w0 = w.alloc (.cells #[.int .i64 0, .int .i64 0, .int .i64 0, .int .i64 0, .string ⟨#[]⟩] 127) := ⟨_, rfl⟩
  have C0 := hid (show Chg (fun _ => False) w w0 by rw [hw0]; exact (Chg.refl _ w).alloc _)
  have B0 := hid (show w0.heap[w.heap.size]? = some (.cells #[.int .i64 0, .int .i64 0, .int .i64 0, .int .i64 0, .string ⟨#[]⟩] 127 (0, 0)) by rw [hw0]; exact blk_new w _)
  have H0 := hid (h.chg C0.out (fun _ h => h.elim) (fun h => h))
  have E0 := hid (rdZero (X := left b at_ bad))
  clear h
  go_enter Try.func91, Try.ntmps91
  go_wp2_with fail
  rw [← hw0]
  clear hw0
  refine (refnum_r H0.out hn).mono ?_
  rintro e w1 ⟨u1, rfl, hw1, hc1, at1, bad1, hr1, eq1⟩
  have H1 := hid hr1
  have C1 := hid hc1
  have E1 := hid (rdMore E0.out eq1)
  have W1 := hid hw1
  clear hw1 hc1 hr1 eq1
  go_wp2_with fail
  refine (refnum_r H1.out hn).mono ?_
  rintro e w2 ⟨u2, rfl, hw2, hc2, at2, bad2, hr2, eq2⟩
  have H2 := hid hr2
  have C2 := hid (C1.out.trans hc2 (fun _ h _ => h))
  have E2 := hid (rdMore E1.out eq2)
  have W2 := hid hw2
  clear hw2 hc2 hr2 eq2
  go_wp2_with fail
  refine (refnum_r H2.out hn).mono ?_
  rintro e w3 ⟨u3, rfl, hw3, hc3, at3, bad3, hr3, eq3⟩
  have H3 := hid hr3
  have C3 := hid (C2.out.trans hc3 (fun _ h _ => h))
  have E3 := hid (rdMore E2.out eq3)
  have W3 := hid hw3
  clear hw3 hc3 hr3 eq3
  go_wp2_with fail
  refine (refnum_r H3.out hn).mono ?_
  rintro e w4 ⟨u4, rfl, hw4, hc4, at4, bad4, hr4, eq4⟩
  have H4 := hid hr4
  have C4 := hid (C3.out.trans hc4 (fun _ h _ => h))
  have E4 := hid (rdMore E3.out eq4)
  have W4 := hid hw4
  clear hw4 hc4 hr4 eq4 H1 H2 H3 E0 E1 E2 E3 C1 C2 C3
  go_wp2_with fail
  have C5 := hid (show Chg (fun _ => False) w4 (w4.alloc (.cells #[.int .i64 u1, .int .i64 u2, .int .i64 u3, .int .i64 u4, .string ⟨#[]⟩] 127)) from (Chg.refl _ w4).alloc _)
  have B5 := hid (blk_new w4 (.cells #[.int .i64 u1, .int .i64 u2, .int .i64 u3, .int .i64 u4, .string ⟨#[]⟩] 127))
  refine (refcount_r (H4.out.chg C5.out (fun _ h => h.elim) (fun h => h)) hn).mono ?_
  rintro e w6 ⟨q, rfl, hqn, hc6, at6, bad6, hr6, eq6⟩
  have HR := hid hr6
  have E6 := hid eq6
  have hg4 : g ≠ w4.heap.size := by have := H4.out.lt; omega
  have hgw : g ≠ w.heap.size := by have := HG.out; omega
  have hsz : w.heap.size < w4.heap.size := Nat.lt_of_lt_of_le (lt_of_blk B0.out) C4.out.size
  have hwz : w.heap.size ≠ w4.heap.size := by omega
  have BX := hid (hc6.blk B5.out (fun e => hg4 e.symm))
  have BT := hid (hc6.blk (C5.out.blk (C4.out.blk B0.out (fun e => hgw e.symm)) (fun h => h)) (fun e => hgw e.symm))
  have CZ := hid ((C5.out.mono (S' := fun k => k = g) (fun _ h _ => h.elim)).trans hc6 (fun _ h _ => h))
  obtain ⟨d0, d1, d2⟩ := hr6.cells
  have hle := hr6.le
  have x0 : w6.cell? ⟨w4.heap.size, 0, none⟩ = _ := cellAt BX.out 0
  have x1 : w6.cell? ⟨w4.heap.size, 1, none⟩ = _ := cellAt BX.out 1
  have x2 : w6.cell? ⟨w4.heap.size, 2, none⟩ = _ := cellAt BX.out 2
  have x3 : w6.cell? ⟨w4.heap.size, 3, none⟩ = _ := cellAt BX.out 3
  have x4 : w6.cell? ⟨w4.heap.size, 4, none⟩ = _ := cellAt BX.out 4
  have y0 : w6.cell? ⟨w.heap.size, 0, none⟩ = _ := cellAt BT.out 0
  have y1 : w6.cell? ⟨w.heap.size, 1, none⟩ = _ := cellAt BT.out 1
  have y2 : w6.cell? ⟨w.heap.size, 2, none⟩ = _ := cellAt BT.out 2
  have y3 : w6.cell? ⟨w.heap.size, 3, none⟩ = _ := cellAt BT.out 3
  have y4 : w6.cell? ⟨w.heap.size, 4, none⟩ = _ := cellAt BT.out 4
  simp only [List.getElem?_toArray, List.getElem?_cons_zero, List.getElem?_cons_succ] at x0 x1 x2 x3 x4 y0 y1 y2 y3 y4
  have f0 : w6.frozen? ⟨w.heap.size, 0, none⟩ = false := freeAt BT.out 0
  have f1 : w6.frozen? ⟨w.heap.size, 1, none⟩ = false := freeAt BT.out 1
  have f2 : w6.frozen? ⟨w.heap.size, 2, none⟩ = false := freeAt BT.out 2
  have f3 : w6.frozen? ⟨w.heap.size, 3, none⟩ = false := freeAt BT.out 3
  have f4 : w6.frozen? ⟨w.heap.size, 4, none⟩ = false := freeAt BT.out 4
  clear hc6 hr6 eq6
  cases bad6 with
  | true =>
    go_wp2_with fail
    have HRF := hid (fun W (PC' : Chg (fun k => k = w.heap.size) w6 W) => (show RfTo B g A n c b at_ bad rdRule W (mkRule [u1, u2, u3, u4] (bts ⟨#[]⟩)) from ⟨at6, true, HR.out.chg PC' (fun k hk => by subst hk; exact Nat.le_trans H.out.low (Nat.le_of_lt HG.out)) hgw, thenRd_eq mkRule E4.out (by have := rdText_of E6.out; rw [left_none, Option.map_none] at this; rw [this, left_none, Option.map_none])⟩))
    obtain ⟨PB, PC⟩ := put_blk (ruleCells (mkRule [u1, u2, u3, u4] (bts (⟨#[]⟩)))) w6 _ BT.out rfl
    generalize hW : (((((w6.setCell ⟨w.heap.size, 0, none⟩ (.int .i64 u1)).setCell ⟨w.heap.size, 1, none⟩ (.int .i64 u2)).setCell ⟨w.heap.size, 2, none⟩ (.int .i64 u3)).setCell ⟨w.heap.size, 3, none⟩ (.int .i64 u4)).setCell ⟨w.heap.size, 4, none⟩ (.string ⟨#[]⟩)) = W
    have PB' : W.heap[w.heap.size]? = some (.cells (ruleCells (mkRule [u1, u2, u3, u4] (bts (⟨#[]⟩)))).toArray 127 (0, 0)) := by rw [← hW]; exact PB
    have PC' : Chg (fun k => k = w.heap.size) w6 W := by rw [← hW]; exact PC
    clear PB PC hW x0 x1 x2 x3 x4 y0 y1 y2 y3 y4 f0 f1 f2 f3 f4 d0 d1 d2
    have z0 : W.cell? ⟨w.heap.size, 0, none⟩ = some (.int .i64 u1) := by rw [cellAt PB']; rfl
    have z1 : W.cell? ⟨w.heap.size, 1, none⟩ = some (.int .i64 u2) := by rw [cellAt PB']; rfl
    have z2 : W.cell? ⟨w.heap.size, 2, none⟩ = some (.int .i64 u3) := by rw [cellAt PB']; rfl
    have z3 : W.cell? ⟨w.heap.size, 3, none⟩ = some (.int .i64 u4) := by rw [cellAt PB']; rfl
    have z4 : W.cell? ⟨w.heap.size, 4, none⟩ = some (.string ⟨#[]⟩) := by rw [cellAt PB']; rfl
    refine bodyPost_ret (v := .agg #[.int .i64 u1, .int .i64 u2, .int .i64 u3, .int .i64 u4, .string ⟨#[]⟩]) (by simp [results, Try.results91, go_sem, z0, z1, z2, z3, z4]) rfl ?_
    refine ⟨mkRule [u1, u2, u3, u4] (bts (⟨#[]⟩)), ⟨?_, by show ByteArray.size ⟨#[]⟩ ≤ maxLen; decide⟩, rfl, ?_, HRF.out W PC'⟩
    · intro u hu
      simp [mkRule, Rule.nums] at hu
      rcases hu with rfl | rfl | rfl | rfl
      · exact W1.out
      · exact W2.out
      · exact W3.out
      · exact W4.out
    · exact (((C0.out.mono (S' := fun k => k = g) (fun _ h _ => h.elim)).trans C4.out (fun _ h _ => h)).trans CZ.out (fun _ h _ => h)).trans (PC'.mono (S' := fun k => k = w.heap.size) (fun _ h _ => h)) (fun k hk hl => by subst hk; exact absurd hl (Nat.lt_irrefl _))
  | false =>
    have hqle : at6 + q ≤ n := count_le E6.out HR.out.row.1 hle
    have ea : IntKind.i64.wrap ((at6 : Int) + (q : Int)) = (at6 : Int) + (q : Int) := IntWalk.i64_in _ (by omega)
    obtain ⟨A6, c6, hcut, hat⟩ := Ty.At.mid_ (P := Try.prog) (d := Ty.u8) Try.underlying36 info5 A n c at6 (at6 + q) q (at6 : Int) ((at6 : Int) + (q : Int)) rfl (by omega) (by omega) (by omega) HR.out.row.2.1 (by omega)
    have HX := hid (hat w6 _ b HR.out.row)
    have HDT := hid (drop_take_q (b := b) (at_ := at6) (q := q))
    obtain ⟨t, ht⟩ : ∃ t, t = bstr ((b.drop at6).take q) := ⟨_, rfl⟩
    have HTT := hid ht
    have hM : ∀ wx, Chg (fun k => k = w4.heap.size) w6 wx → (convert 36 9 (.slice A6 q c6)).run Try.prog wx = .ok (.string t) wx := fun wx hx => by
      have q1 := HX.out.chg hx (fun k hk e => by subst e; have := H.out.low; have := HG.out; omega)
      rw [HTT.out, ← HDT.out]
      exact str_run Try.underlying36 Try.underlying5 Try.underlying9 q1.1 q1.bytes q1.2.2.2.1 q1.2.1
    have hc0 : ∀ wx, Chg (fun k => k = w4.heap.size) w6 wx → wx.cell? ⟨g, 0, none⟩ = some (.slice A n c) := fun wx hx => hx.cell d0 hg4
    have hc1 : ∀ wx, Chg (fun k => k = w4.heap.size) w6 wx → wx.cell? ⟨g, 1, none⟩ = some (.int .i64 (at6 : Int)) := fun wx hx => hx.cell d1 hg4
    have fx : w6.drew.frozen? ⟨w4.heap.size, 4, none⟩ = false := freeAt (w := w6.drew) BX.out 4
    have cx : w6.drew.cell? ⟨w4.heap.size, 4, none⟩ = some (.string ⟨#[]⟩) := x4
    have HSZ := hid (show (mkRule [u1, u2, u3, u4] (bts t)).pat.size ≤ maxLen by
      show (bstr (bts t)).size ≤ maxLen
      rw [bstr_bts, HTT.out, bstr_size, List.length_take]
      exact Nat.le_trans (Nat.min_le_left _ _) (by simp [maxLen]; omega))
    clear hat HX HDT ht
    go_wp2_with fail
    refine wpB_start (fun wx : World => Chg (fun k => k = w4.heap.size) w6 wx) (by kernel_rfl) ?_
    have hHeld : (fun wx : World => Chg (fun k => k = w4.heap.size) w6 wx) _ := (by first | assumption | exact Chg.drew (Chg.refl _ _) | (show _ ∧ _; refine ⟨?_, ?_⟩ <;> assumption) | (first | assumption | exact hHeld.set (fun _ => rfl) _))
    -- 0: t21 := move t0 : 116
    refine wpB_take (i := 0) (v := ?_) (get_of_drop rfl) (by kernel_rfl) (by kernel_rfl) (by kernel_rfl) (by kernel_rfl) (fun _ _ _ h => h) (Or.inl ⟨by rfl, ?_⟩) hHeld ?_
    rotate_left
    · (intro w hSw; (try dsimp only at hSw); go_simp <;> with_reducible rfl)
    try simp only [Act.put, List.setIfInBounds_toArray, List.set_cons_zero, List.set_cons_succ]
    -- 1: t22 := nilCheck t21 : 0
    refine wpB_take (i := 1) (v := ?_) (get_of_drop rfl) (by kernel_rfl) (by kernel_rfl) (by kernel_rfl) (by kernel_rfl) (fun _ _ _ h => h) (Or.inl ⟨by rfl, ?_⟩) hHeld ?_
    rotate_left
    · (intro w hSw; (try dsimp only at hSw); go_simp <;> with_reducible rfl)
    try simp only [Act.put, List.setIfInBounds_toArray, List.set_cons_zero, List.set_cons_succ]
    -- 2: t23 := fieldAddr 118 t22 0 : 0
    refine wpB_take (i := 2) (v := ?_) (get_of_drop rfl) (by kernel_rfl) (by kernel_rfl) (by kernel_rfl) (by kernel_rfl) (fun _ _ _ h => h) (Or.inl ⟨by rfl, ?_⟩) hHeld ?_
    rotate_left
    · (intro w hSw; (try dsimp only at hSw); go_simp <;> with_reducible rfl)
    try simp only [Act.put, List.setIfInBounds_toArray, List.set_cons_zero, List.set_cons_succ]
    -- 3: t24 := load 36 t23 : 36
    refine wpB_take (i := 3) (v := ?_) (get_of_drop rfl) (by kernel_rfl) (by kernel_rfl) (by kernel_rfl) (by kernel_rfl) (fun _ _ _ h => h) (Or.inl ⟨by rfl, ?_⟩) hHeld ?_
    rotate_left
    · (intro w hSw; (try dsimp only at hSw); go_simp <;> with_reducible rfl)
    try simp only [Act.put, List.setIfInBounds_toArray, List.set_cons_zero, List.set_cons_succ]
    -- 4: t25 := move t0 : 116
    refine wpB_take (i := 4) (v := ?_) (get_of_drop rfl) (by kernel_rfl) (by kernel_rfl) (by kernel_rfl) (by kernel_rfl) (fun _ _ _ h => h) (Or.inl ⟨by rfl, ?_⟩) hHeld ?_
    rotate_left
    · (intro w hSw; (try dsimp only at hSw); go_simp <;> with_reducible rfl)
    try simp only [Act.put, List.setIfInBounds_toArray, List.set_cons_zero, List.set_cons_succ]
    -- 5: t26 := nilCheck t25 : 0
    refine wpB_take (i := 5) (v := ?_) (get_of_drop rfl) (by kernel_rfl) (by kernel_rfl) (by kernel_rfl) (by kernel_rfl) (fun _ _ _ h => h) (Or.inl ⟨by rfl, ?_⟩) hHeld ?_
    rotate_left
    · (intro w hSw; (try dsimp only at hSw); go_simp <;> with_reducible rfl)
    try simp only [Act.put, List.setIfInBounds_toArray, List.set_cons_zero, List.set_cons_succ]
    -- 6: t27 := fieldAddr 118 t26 1 : 0
    refine wpB_take (i := 6) (v := ?_) (get_of_drop rfl) (by kernel_rfl) (by kernel_rfl) (by kernel_rfl) (by kernel_rfl) (fun _ _ _ h => h) (Or.inl ⟨by rfl, ?_⟩) hHeld ?_
    rotate_left
    · (intro w hSw; (try dsimp only at hSw); go_simp <;> with_reducible rfl)
    try simp only [Act.put, List.setIfInBounds_toArray, List.set_cons_zero, List.set_cons_succ]
    -- 7: t28 := load 3 t27 : 3
    refine wpB_take (i := 7) (v := ?_) (get_of_drop rfl) (by kernel_rfl) (by kernel_rfl) (by kernel_rfl) (by kernel_rfl) (fun _ _ _ h => h) (Or.inl ⟨by rfl, ?_⟩) hHeld ?_
    rotate_left
    · (intro w hSw; (try dsimp only at hSw); go_simp <;> with_reducible rfl)
    try simp only [Act.put, List.setIfInBounds_toArray, List.set_cons_zero, List.set_cons_succ]
    -- 8: t29 := move t0 : 116
    refine wpB_take (i := 8) (v := ?_) (get_of_drop rfl) (by kernel_rfl) (by kernel_rfl) (by kernel_rfl) (by kernel_rfl) (fun _ _ _ h => h) (Or.inl ⟨by rfl, ?_⟩) hHeld ?_
    rotate_left
    · (intro w hSw; (try dsimp only at hSw); go_simp <;> with_reducible rfl)
    try simp only [Act.put, List.setIfInBounds_toArray, List.set_cons_zero, List.set_cons_succ]
    -- 9: t30 := nilCheck t29 : 0
    refine wpB_take (i := 9) (v := ?_) (get_of_drop rfl) (by kernel_rfl) (by kernel_rfl) (by kernel_rfl) (by kernel_rfl) (fun _ _ _ h => h) (Or.inl ⟨by rfl, ?_⟩) hHeld ?_
    rotate_left
    · (intro w hSw; (try dsimp only at hSw); go_simp <;> with_reducible rfl)
    try simp only [Act.put, List.setIfInBounds_toArray, List.set_cons_zero, List.set_cons_succ]
    -- 10: t31 := fieldAddr 118 t30 1 : 0
    refine wpB_take (i := 10) (v := ?_) (get_of_drop rfl) (by kernel_rfl) (by kernel_rfl) (by kernel_rfl) (by kernel_rfl) (fun _ _ _ h => h) (Or.inl ⟨by rfl, ?_⟩) hHeld ?_
    rotate_left
    · (intro w hSw; (try dsimp only at hSw); go_simp <;> with_reducible rfl)
    try simp only [Act.put, List.setIfInBounds_toArray, List.set_cons_zero, List.set_cons_succ]
    -- 11: t32 := load 3 t31 : 3
    refine wpB_take (i := 11) (v := ?_) (get_of_drop rfl) (by kernel_rfl) (by kernel_rfl) (by kernel_rfl) (by kernel_rfl) (fun _ _ _ h => h) (Or.inl ⟨by rfl, ?_⟩) hHeld ?_
    rotate_left
    · (intro w hSw; (try dsimp only at hSw); go_simp <;> with_reducible rfl)
    try simp only [Act.put, List.setIfInBounds_toArray, List.set_cons_zero, List.set_cons_succ]
    -- 12: t33 := move t4 : 3
    refine wpB_take (i := 12) (v := ?_) (get_of_drop rfl) (by kernel_rfl) (by kernel_rfl) (by kernel_rfl) (by kernel_rfl) (fun _ _ _ h => h) (Or.inl ⟨by rfl, ?_⟩) hHeld ?_
    rotate_left
    · (intro w hSw; (try dsimp only at hSw); go_simp <;> with_reducible rfl)
    try simp only [Act.put, List.setIfInBounds_toArray, List.set_cons_zero, List.set_cons_succ]
    -- 13: t34 := binOp BinOp.add 3 t32 t33 3 : 3
    refine wpB_take (i := 13) (v := ?_) (get_of_drop rfl) (by kernel_rfl) (by kernel_rfl) (by kernel_rfl) (by kernel_rfl) (fun _ _ _ h => h) (Or.inl ⟨by rfl, ?_⟩) hHeld ?_
    rotate_left
    · (intro w hSw; (try dsimp only at hSw); go_simp <;> with_reducible rfl)
    try simp only [Act.put, List.setIfInBounds_toArray, List.set_cons_zero, List.set_cons_succ]
    -- 14: t35 := slice 36 t24 some t28 some t34 none : 36
    refine wpB_take (i := 14) (v := ?_) (get_of_drop rfl) (by kernel_rfl) (by kernel_rfl) (by kernel_rfl) (by kernel_rfl) (fun _ _ _ h => h) (Or.inl ⟨by rfl, ?_⟩) hHeld ?_
    rotate_left
    · (intro w hSw; (try dsimp only at hSw); go_simp <;> with_reducible rfl)
    try simp only [Act.put, List.setIfInBounds_toArray, List.set_cons_zero, List.set_cons_succ]
    -- 15: t36 := convert 36 9 t35 : 9
    refine wpB_take (i := 15) (v := ?_) (get_of_drop rfl) (by kernel_rfl) (by kernel_rfl) (by kernel_rfl) (by kernel_rfl) (fun _ _ _ h => h) (Or.inl ⟨by rfl, ?_⟩) hHeld ?_
    rotate_left
    · (intro w hSw; (try dsimp only at hSw); go_simp <;> with_reducible rfl)
    try simp only [Act.put, List.setIfInBounds_toArray, List.set_cons_zero, List.set_cons_succ]
    -- 16: t37 := fieldAddr 127 t3 4 : 0
    refine wpB_take (i := 16) (v := ?_) (get_of_drop rfl) (by kernel_rfl) (by kernel_rfl) (by kernel_rfl) (by kernel_rfl) (fun _ _ _ h => h) (Or.inl ⟨by rfl, ?_⟩) hHeld ?_
    rotate_left
    · (intro w hSw; (try dsimp only at hSw); go_simp <;> with_reducible rfl)
    try simp only [Act.put, List.setIfInBounds_toArray, List.set_cons_zero, List.set_cons_succ]
    -- 17: t- := store 9 t37 t36 : 0 (BARRIER)
    refine wpB_bar (i := 17) (by kernel_rfl) (get_of_drop rfl) (by kernel_rfl) (fun K hK => ?_)
    go_simp
    refine hK.out _ _ (fun _ : World => True) ?_
    clear hHeld hK K
    have hHeld := trivial
    try simp only [Act.put, List.setIfInBounds_toArray, List.set_cons_zero, List.set_cons_succ]
    refine wpB_done (by kernel_rfl) ?_ _
    clear hHeld hM hc0 hc1 fx cx hcut
    obtain ⟨w7, hw7⟩ : ∃ w7, w7 = (w6.setCell ⟨w4.heap.size, 4, none⟩ (.string t)).drew := ⟨_, rfl⟩
    rw [← hw7]
    have C7 := hid (show Chg (fun k => k = w4.heap.size) w6 w7 by rw [hw7]; exact (chg_at _ 4 _ w6).drew)
    have BX7 := hid (show w7.heap[w4.heap.size]? = some (.cells (ruleCells (mkRule [u1, u2, u3, u4] (bts t))).toArray 127 (0, 0)) by rw [hw7]; exact blk_set BX.out 4 (.string t))
    have BT7 := hid (C7.out.blk BT.out hwz)
    have HR7 := hid (HR.out.chg C7.out (fun k hk => by subst hk; have := H.out.low; have := HG.out; omega) hg4)
    obtain ⟨d0', d1', d2'⟩ := HR7.out.cells
    have fg : w7.frozen? ⟨g, 1, none⟩ = false := freeAt HR7.out.blk 1
    clear hw7 x0 x1 x2 x3 x4 y0 y1 y2 y3 y4 f0 f1 f2 f3 f4 d0 d1 d2
    have x0 : w7.cell? ⟨w4.heap.size, 0, none⟩ = _ := cellAt BX7.out 0
    have y0 : w7.cell? ⟨w.heap.size, 0, none⟩ = _ := cellAt BT7.out 0
    have f0 : w7.frozen? ⟨w.heap.size, 0, none⟩ = false := freeAt BT7.out 0
    have x1 : w7.cell? ⟨w4.heap.size, 1, none⟩ = _ := cellAt BX7.out 1
    have y1 : w7.cell? ⟨w.heap.size, 1, none⟩ = _ := cellAt BT7.out 1
    have f1 : w7.frozen? ⟨w.heap.size, 1, none⟩ = false := freeAt BT7.out 1
    have x2 : w7.cell? ⟨w4.heap.size, 2, none⟩ = _ := cellAt BX7.out 2
    have y2 : w7.cell? ⟨w.heap.size, 2, none⟩ = _ := cellAt BT7.out 2
    have f2 : w7.frozen? ⟨w.heap.size, 2, none⟩ = false := freeAt BT7.out 2
    have x3 : w7.cell? ⟨w4.heap.size, 3, none⟩ = _ := cellAt BX7.out 3
    have y3 : w7.cell? ⟨w.heap.size, 3, none⟩ = _ := cellAt BT7.out 3
    have f3 : w7.frozen? ⟨w.heap.size, 3, none⟩ = false := freeAt BT7.out 3
    have x4 : w7.cell? ⟨w4.heap.size, 4, none⟩ = _ := cellAt BX7.out 4
    have y4 : w7.cell? ⟨w.heap.size, 4, none⟩ = _ := cellAt BT7.out 4
    have f4 : w7.frozen? ⟨w.heap.size, 4, none⟩ = false := freeAt BT7.out 4
    simp only [ruleCells, mkRule, Rule.nums, ints, List.map_cons, List.map_nil, List.cons_append, List.nil_append, List.getElem?_toArray, List.getElem?_cons_zero, List.getElem?_cons_succ, bstr_bts] at x0 x1 x2 x3 x4 y0 y1 y2 y3 y4
    go_wp2_with fail
    obtain ⟨w8, hw8⟩ : ∃ w8, w8 = w7.setCell ⟨g, 1, none⟩ (.int .i64 ((at6 : Int) + (q : Int))) := ⟨_, rfl⟩
    rw [← hw8]
    have HR8 := hid (show Rf w8 B g A n c b (at6 + q) false by rw [hw8]; exact HR7.out.setAt (q := at6 + q) hqle)
    have C8 := hid (show Chg (fun k => k = g) w7 w8 by rw [hw8]; exact chg_at g 1 _ w7)
    have BT8 := hid (C8.out.blk BT7.out (fun e => hgw e.symm))
    clear hw8
    have CZ8 := hid (show Chg (fun k => k = g) w4 w8 from ((CZ.out.trans C7.out (fun k hk hl => by subst hk; exact absurd hl (Nat.lt_irrefl _))).trans C8.out (fun _ h _ => h)))
    have HRF := hid (fun W (PC' : Chg (fun k => k = w.heap.size) w8 W) => (show RfTo B g A n c b at_ bad rdRule W (mkRule [u1, u2, u3, u4] (bts t)) from ⟨at6 + q, false, HR8.out.chg PC' (fun k hk => by subst hk; exact Nat.le_trans H.out.low (Nat.le_of_lt HG.out)) hgw, thenRd_eq mkRule E4.out (by
      have q1 := rdText_of E6.out
      rw [q1, HTT.out, bts_bstr, left_some, left_some, Option.map_some, Option.map_some, List.drop_drop])⟩))
    obtain ⟨PB, PC⟩ := put_blk (ruleCells (mkRule [u1, u2, u3, u4] (bts (t)))) w8 _ BT8.out rfl
    generalize hW : (((((w8.setCell ⟨w.heap.size, 0, none⟩ (.int .i64 u1)).setCell ⟨w.heap.size, 1, none⟩ (.int .i64 u2)).setCell ⟨w.heap.size, 2, none⟩ (.int .i64 u3)).setCell ⟨w.heap.size, 3, none⟩ (.int .i64 u4)).setCell ⟨w.heap.size, 4, none⟩ (.string t)) = W
    have PB' : W.heap[w.heap.size]? = some (.cells (ruleCells (mkRule [u1, u2, u3, u4] (bts (t)))).toArray 127 (0, 0)) := by rw [← hW]; exact PB
    have PC' : Chg (fun k => k = w.heap.size) w8 W := by rw [← hW]; exact PC
    clear PB PC hW x0 y0 f0 x1 y1 f1 x2 y2 f2 x3 y3 f3 x4 y4 f4 d0' d1' d2' fg
    have z0 : W.cell? ⟨w.heap.size, 0, none⟩ = some (.int .i64 u1) := by rw [cellAt PB']; rfl
    have z1 : W.cell? ⟨w.heap.size, 1, none⟩ = some (.int .i64 u2) := by rw [cellAt PB']; rfl
    have z2 : W.cell? ⟨w.heap.size, 2, none⟩ = some (.int .i64 u3) := by rw [cellAt PB']; rfl
    have z3 : W.cell? ⟨w.heap.size, 3, none⟩ = some (.int .i64 u4) := by rw [cellAt PB']; rfl
    have z4 : W.cell? ⟨w.heap.size, 4, none⟩ = some (.string t) := by rw [cellAt PB']; rfl
    refine bodyPost_ret (v := .agg #[.int .i64 u1, .int .i64 u2, .int .i64 u3, .int .i64 u4, .string t]) (by simp [results, Try.results91, go_sem, z0, z1, z2, z3, z4]) rfl ?_
    refine ⟨mkRule [u1, u2, u3, u4] (bts (t)), ⟨?_, HSZ.out⟩, rfl, ?_, HRF.out W PC'⟩
    · intro u hu
      simp [mkRule, Rule.nums] at hu
      rcases hu with rfl | rfl | rfl | rfl
      · exact W1.out
      · exact W2.out
      · exact W3.out
      · exact W4.out
    · exact (((C0.out.mono (S' := fun k => k = g) (fun _ h _ => h.elim)).trans C4.out (fun _ h _ => h)).trans CZ8.out (fun _ h _ => h)).trans (PC'.mono (S' := fun k => k = w.heap.size) (fun _ h _ => h)) (fun k hk hl => by subst hk; exact absurd hl (Nat.lt_irrefl _))
end Go.Proofs.Ytfpjickdkkhndaa.Pa


/- The document's reader: its entry. -/

namespace Go.Proofs.Ytfpjickdkkhndaa.Pa

set_option linter.unusedVariables false

set_option linter.unusedSimpArgs false

open Go.RowKit Go.Proofs.Ytfpjickdkkhndaa.C

attribute [local go_sem] max2_int min2_int max_two min_two

/-- k elements of a list were read into cell o of block p. -/
structure SeqAt {α : Type} (d : Ty α) (e : TypeId) (rdr : List UInt8 → Option (α × List UInt8)) (w : World) (B g : Nat) (A : Option Addr) (n c : Nat) (b : List UInt8) (p o tp : Nat) (cs : Array Value) (Y : Option (List UInt8)) (k : Nat) (us : List α) (A' : Option Addr) (c' at' : Nat) (bad' : Bool) (wr : World) : Prop where
  len : us.length = k
  blk : wr.heap[p]? = some (.cells (cs.setIfInBounds o (.slice A' k c')) tp (0, 0))
  vec : Vec d e wr (fun k => w.heap.size ≤ k) (fun k => w.heap.size ≤ k) (.slice A' k c') us
  chg : Chg (fun j => j = g ∨ j = p) w wr
  rd : Rf wr B g A n c b at' bad'
  eq : Y.bind (rdList rdr k) = (left b at' bad').map fun r => (us, r)
theorem SeqAt.step {α : Type} {d : Ty α} {e : TypeId} {rd : List UInt8 → Option (α × List UInt8)} (hty : e ≠ 118) {w : World} {B g : Nat} {A : Option Addr} {n c : Nat} {b : List UInt8} {p o tp : Nat} {cs : Array Value} {Y : Option (List UInt8)} {k : Nat} {us : List α} {A' : Option Addr} {c' at' : Nat} {wr w3 w4 : World} {y : α} {A4 : Option Addr} {c4 at2 : Nat} {bad2 : Bool}
    (h : SeqAt d e rd w B g A n c b p o tp cs Y k us A' c' at' false wr) (hpg : p ≠ g) (hc3 : Chg (fun j => j = g) wr w3) (hrd : Rf w3 B g A n c b at2 bad2) (heq : (left b at' false).bind rd = (left b at2 bad2).map fun r => (y, r)) (hpw : B ≤ p ∧ p < w.heap.size)
    (hv4 : Vec d e w4 (fun k => w.heap.size ≤ k) (fun k => w.heap.size ≤ k) (.slice A4 (k + 1) c4) (us ++ [y])) (hc4 : Chg (fun j => (Value.slice A' k c').ownBlock = some j) w3 w4) :
    SeqAt d e rd w B g A n c b p o tp cs Y (k + 1) (us ++ [y]) A4 c4 at2 bad2 (w4.setCell ⟨p, o, none⟩ (.slice A4 (k + 1) c4)) := by
  have hlt := h.vec.lt
  have hge := h.vec.inS
  have hB := h.rd.low
  have hg := h.rd.lt
  have hpown : (Value.slice A' k c').ownBlock ≠ some p := fun e => by have := hge p e; omega
  have hgown : (Value.slice A' k c').ownBlock ≠ some g := h.vec.ne h.rd.blk hty
  have b3 := hc3.blk h.blk hpg
  have b4 := hc4.blk b3 hpown
  have bs := blk_set b4 o (.slice A4 (k + 1) c4)
  rw [Array.setIfInBounds_setIfInBounds] at bs
  have cs4 : Chg (fun j => j = p) w4 (w4.setCell ⟨p, o, none⟩ (.slice A4 (k + 1) c4)) := (Chg.refl (fun j => j = p) w4).set (p := ⟨p, o, none⟩) (fun _ => rfl) _
  have hv4p : (Value.slice A4 (k + 1) c4).ownBlock ≠ some p := fun e => by have := hv4.inS p e; omega
  refine ⟨by rw [List.length_append, h.len]; rfl, bs, hv4.chg cs4 (fun j hj e => hv4p (e ▸ hj)) (fun j hj _ _ e => by subst e; omega), ?_, ?_, ?_⟩
  · refine ((h.chg.trans hc3 (fun j hj hl => .inl hj)).trans hc4 (fun j hj hl => ?_)).trans cs4 (fun j hj _ => .inr hj)
    have := hge j hj; omega
  · exact (hrd.chg (M := fun j => (Value.slice A' k c').ownBlock = some j) hc4 (fun j hj => by have := hge j hj; omega) hgown).chg cs4 (fun j hj => by subst hj; exact hpw.1) (fun e => hpg e.symm)
  · rw [rdList_step h.eq, heq]
    cases (left b at2 bad2) <;> rfl
theorem rdSeq_of {α : Type} {rd : List UInt8 → Option (α × List UInt8)} {L : Nat} {X Y : Option (List UInt8)} {q : Nat} (h : X.bind (rdCountL L) = Y.map fun r => (q, r)) : X.bind (rdSeq L rd) = Y.bind (rdList rd q) := by
  have e : X.bind (rdSeq L rd) = (X.bind (rdCountL L)).bind fun r => rdList rd r.1 r.2 := by cases X <;> rfl
  rw [e, h]
  cases Y <;> rfl
theorem SeqAt.done {α : Type} {d : Ty α} {e : TypeId} {rd : List UInt8 → Option (α × List UInt8)} {w : World} {B g : Nat} {A : Option Addr} {n c : Nat} {b : List UInt8} {p o tp : Nat} {cs : Array Value} {k q : Nat} {us : List α} {A' : Option Addr} {c' at' : Nat} {bad' : Bool} {wr : World} {at_ at1 : Nat} {bad bad1 : Bool} (h : SeqAt d e rd w B g A n c b p o tp cs (left b at1 bad1) k us A' c' at' bad' wr)
    (he : (left b at_ bad).bind (rdCountL 1) = (left b at1 bad1).map fun r => (q, r)) (hk : k ≤ q) (hd : k = q ∨ bad' = true) : (left b at_ bad).bind (rdSeq 1 rd) = (left b at' bad').map fun r => (us, r) := by
  rw [rdSeq_of he]
  rcases hd with rfl | rfl
  · exact h.eq
  · rw [left_none, Option.map_none]
    have := h.eq
    rw [left_none, Option.map_none] at this
    exact rdList_stop this hk

theorem infoRule : (Try.prog.info? 127).map (fun i => (i.zero, i.size, i.bytes)) = some (some (.agg #[.int .i64 0, .int .i64 0, .int .i64 0, .int .i64 0, .string ByteArray.empty]), 5, 48) := by kernel_rfl
theorem infoInt : (Try.prog.info? 3).map (fun i => (i.zero, i.size, i.bytes)) = some (some (.int .i64 0), 1, 8) := by kernel_rfl
def rdEntryR : List UInt8 → Option (Entry × List UInt8) := thenRd (thenRd (rdList rdNum 7) (rdSeq 1 rdRule) Prod.mk) (rdSeq 1 rdNum) (fun q d => mkEntry q.1 q.2 d)
def RfEntry (w : World) (B g : Nat) (A : Option Addr) (n c : Nat) (b : List UInt8) (at_ : Nat) (bad : Bool) (e' : Ending) (w' : World) : Prop :=
  ∃ (e : Entry) (A1 : Option Addr) (n1 c1 : Nat) (A2 : Option Addr) (n2 c2 : Nat), e' = .returned (.agg #[.int .i64 e.view, .int .i64 e.client, .int .i64 e.request, .int .i64 e.dflt, .int .i64 e.closed, .int .i64 e.fuel, .int .i64 e.stack, .slice A1 n1 c1, .slice A2 n2 c2]) ∧ EntryAt w' (fun k => w.heap.size ≤ k) e A1 n1 c1 A2 n2 c2 ∧ Chg (fun k => k = g) w w' ∧ RfTo B g A n c b at_ bad rdEntryR w' e

set_option maxHeartbeats 8000000 in
set_option maxRecDepth 100000 in
theorem refentry_r {w : World} {B g : Nat} {A : Option Addr} {n c : Nat} {b : List UInt8} {at_ : Nat} {bad : Bool} (h : Rf w B g A n c b at_ bad) (hn : n ≤ 1000000) :
    Calls Try.prog 80 #[.pointer (some ⟨g, 0, none⟩)] w (RfEntry w B g A n c b at_ bad) := by
  have H := hid h
  have HG := hid h.lt
  have hn2 : (n : Int) ≤ 1000000 := by omega
  obtain ⟨w0, hw0⟩ : ∃ w0, w0 = w.alloc (.cells #[.int .i64 0, .int .i64 0, .int .i64 0, .int .i64 0, .int .i64 0, .int .i64 0, .int .i64 0, .slice none 0 0, .slice none 0 0] 100) := ⟨_, rfl⟩
  have C0 := hid (show Chg (fun _ => False) w w0 by rw [hw0]; exact (Chg.refl _ w).alloc _)
  have B0 := hid (show w0.heap[w.heap.size]? = some (.cells #[.int .i64 0, .int .i64 0, .int .i64 0, .int .i64 0, .int .i64 0, .int .i64 0, .int .i64 0, .slice none 0 0, .slice none 0 0] 100 (0, 0)) by rw [hw0]; exact blk_new w _)
  have H0 := hid (h.chg C0.out (fun _ h => h.elim) (fun h => h))
  have E0 := hid (rdZero (X := left b at_ bad))
  have C00 := hid (Chg.refl (fun k => k = g) w0)
  clear h
  go_enter Try.func80, Try.ntmps80
  go_wp2_with fail
  rw [← hw0]
  clear hw0
  refine (refnum_r H0.out hn).mono ?_
  rintro e w1 ⟨u1, rfl, hw1, hc1, at1, bad1, hr1, eq1⟩
  have H1 := hid hr1
  have C1 := hid (C00.out.trans hc1 (fun _ h _ => h))
  have E1 := hid (rdMore E0.out eq1)
  have W1 := hid hw1
  clear hw1 hc1 hr1 eq1
  go_wp2_with fail
  refine (refnum_r H1.out hn).mono ?_
  rintro e w2 ⟨u2, rfl, hw2, hc2, at2, bad2, hr2, eq2⟩
  have H2 := hid hr2
  have C2 := hid (C1.out.trans hc2 (fun _ h _ => h))
  have E2 := hid (rdMore E1.out eq2)
  have W2 := hid hw2
  clear hw2 hc2 hr2 eq2
  go_wp2_with fail
  refine (refnum_r H2.out hn).mono ?_
  rintro e w3 ⟨u3, rfl, hw3, hc3, at3, bad3, hr3, eq3⟩
  have H3 := hid hr3
  have C3 := hid (C2.out.trans hc3 (fun _ h _ => h))
  have E3 := hid (rdMore E2.out eq3)
  have W3 := hid hw3
  clear hw3 hc3 hr3 eq3
  go_wp2_with fail
  obtain ⟨p, hp⟩ : ∃ p, p = w3.heap.size := ⟨_, rfl⟩
  obtain ⟨w3', hw3'⟩ : ∃ w3', w3' = w3.alloc (.cells #[.int .i64 u1, .int .i64 u2, .int .i64 u3, .int .i64 0, .int .i64 0, .int .i64 0, .int .i64 0, .slice none 0 0, .slice none 0 0] 100) := ⟨_, rfl⟩
  have CP := hid (show Chg (fun _ => False) w3 w3' by rw [hw3']; exact (Chg.refl _ w3).alloc _)
  have P3 := hid (show w3'.heap[p]? = some (.cells #[.int .i64 u1, .int .i64 u2, .int .i64 u3, .int .i64 0, .int .i64 0, .int .i64 0, .int .i64 0, .slice none 0 0, .slice none 0 0] 100 (0, 0)) by rw [hw3', hp]; exact blk_new w3 _)
  have HP := hid hp
  have hpg : p ≠ g := by have := H3.out.lt; omega
  have hpw : w.heap.size < p := by rw [hp]; exact Nat.lt_of_lt_of_le (lt_of_blk B0.out) C3.out.size
  have hgw : g ≠ w.heap.size := by have := HG.out; omega
  rw [← hw3', ← hp]
  clear hw3' hp
  have H3' := hid (H3.out.chg CP.out (fun _ h => h.elim) (fun h => h))
  have D3 := hid (Chg.refl (fun k => k = g ∨ k = p) w3')
  clear H1 H2 E1 E2 C1 C2
  refine (refnum_r H3'.out hn).mono ?_
  rintro e w4 ⟨u4, rfl, hw4, hc4, at4, bad4, hr4, eq4⟩
  have P4 := hid (hc4.blk P3.out hpg)
  have E4 := hid (rdMore E3.out eq4)
  have W4 := hid hw4
  have z : w4.cell? ⟨p, 3, none⟩ = some (.int .i64 0) := by rw [cellAt P4.out]; rfl
  have fz : w4.frozen? ⟨p, 3, none⟩ = false := freeAt P4.out 3
  go_wp2_with fail
  obtain ⟨w4', hw4'⟩ : ∃ w4', w4' = w4.setCell ⟨p, 3, none⟩ (.int .i64 u4) := ⟨_, rfl⟩
  rw [← hw4']
  have P4' := hid (show w4'.heap[p]? = some (.cells #[.int .i64 u1, .int .i64 u2, .int .i64 u3, .int .i64 u4, .int .i64 0, .int .i64 0, .int .i64 0, .slice none 0 0, .slice none 0 0] 100 (0, 0)) by rw [hw4']; exact blk_set P4.out 3 _)
  have CS := hid (show Chg (fun k => k = p) w4 w4' by rw [hw4']; exact chg_at p 3 _ w4)
  have H4' := hid (hr4.chg CS.out (fun k hk => by subst hk; have := H.out.low; have := HG.out; omega) (fun e => hpg e.symm))
  have D4 := hid ((D3.out.trans hc4 (fun _ h _ => .inl h)).trans CS.out (fun _ h _ => .inr h))
  clear hw4 hc4 hr4 eq4 z fz hw4' CS
  refine (refnum_r H4'.out hn).mono ?_
  rintro e w5 ⟨u5, rfl, hw5, hc5, at5, bad5, hr5, eq5⟩
  have P5 := hid (hc5.blk P4'.out hpg)
  have E5 := hid (rdMore E4.out eq5)
  have W5 := hid hw5
  have z : w5.cell? ⟨p, 4, none⟩ = some (.int .i64 0) := by rw [cellAt P5.out]; rfl
  have fz : w5.frozen? ⟨p, 4, none⟩ = false := freeAt P5.out 4
  go_wp2_with fail
  obtain ⟨w5', hw5'⟩ : ∃ w5', w5' = w5.setCell ⟨p, 4, none⟩ (.int .i64 u5) := ⟨_, rfl⟩
  rw [← hw5']
  have P5' := hid (show w5'.heap[p]? = some (.cells #[.int .i64 u1, .int .i64 u2, .int .i64 u3, .int .i64 u4, .int .i64 u5, .int .i64 0, .int .i64 0, .slice none 0 0, .slice none 0 0] 100 (0, 0)) by rw [hw5']; exact blk_set P5.out 4 _)
  have CS := hid (show Chg (fun k => k = p) w5 w5' by rw [hw5']; exact chg_at p 4 _ w5)
  have H5' := hid (hr5.chg CS.out (fun k hk => by subst hk; have := H.out.low; have := HG.out; omega) (fun e => hpg e.symm))
  have D5 := hid ((D4.out.trans hc5 (fun _ h _ => .inl h)).trans CS.out (fun _ h _ => .inr h))
  clear hw5 hc5 hr5 eq5 z fz hw5' CS
  refine (refnum_r H5'.out hn).mono ?_
  rintro e w6 ⟨u6, rfl, hw6, hc6, at6, bad6, hr6, eq6⟩
  have P6 := hid (hc6.blk P5'.out hpg)
  have E6 := hid (rdMore E5.out eq6)
  have W6 := hid hw6
  have z : w6.cell? ⟨p, 5, none⟩ = some (.int .i64 0) := by rw [cellAt P6.out]; rfl
  have fz : w6.frozen? ⟨p, 5, none⟩ = false := freeAt P6.out 5
  go_wp2_with fail
  obtain ⟨w6', hw6'⟩ : ∃ w6', w6' = w6.setCell ⟨p, 5, none⟩ (.int .i64 u6) := ⟨_, rfl⟩
  rw [← hw6']
  have P6' := hid (show w6'.heap[p]? = some (.cells #[.int .i64 u1, .int .i64 u2, .int .i64 u3, .int .i64 u4, .int .i64 u5, .int .i64 u6, .int .i64 0, .slice none 0 0, .slice none 0 0] 100 (0, 0)) by rw [hw6']; exact blk_set P6.out 5 _)
  have CS := hid (show Chg (fun k => k = p) w6 w6' by rw [hw6']; exact chg_at p 5 _ w6)
  have H6' := hid (hr6.chg CS.out (fun k hk => by subst hk; have := H.out.low; have := HG.out; omega) (fun e => hpg e.symm))
  have D6 := hid ((D5.out.trans hc6 (fun _ h _ => .inl h)).trans CS.out (fun _ h _ => .inr h))
  clear hw6 hc6 hr6 eq6 z fz hw6' CS
  refine (refnum_r H6'.out hn).mono ?_
  rintro e w7 ⟨u7, rfl, hw7, hc7, at7, bad7, hr7, eq7⟩
  have P7 := hid (hc7.blk P6'.out hpg)
  have E7 := hid (rdMore E6.out eq7)
  have W7 := hid hw7
  have z : w7.cell? ⟨p, 6, none⟩ = some (.int .i64 0) := by rw [cellAt P7.out]; rfl
  have fz : w7.frozen? ⟨p, 6, none⟩ = false := freeAt P7.out 6
  go_wp2_with fail
  obtain ⟨w7', hw7'⟩ : ∃ w7', w7' = w7.setCell ⟨p, 6, none⟩ (.int .i64 u7) := ⟨_, rfl⟩
  rw [← hw7']
  have P7' := hid (show w7'.heap[p]? = some (.cells #[.int .i64 u1, .int .i64 u2, .int .i64 u3, .int .i64 u4, .int .i64 u5, .int .i64 u6, .int .i64 u7, .slice none 0 0, .slice none 0 0] 100 (0, 0)) by rw [hw7']; exact blk_set P7.out 6 _)
  have CS := hid (show Chg (fun k => k = p) w7 w7' by rw [hw7']; exact chg_at p 6 _ w7)
  have H7' := hid (hr7.chg CS.out (fun k hk => by subst hk; have := H.out.low; have := HG.out; omega) (fun e => hpg e.symm))
  have D7 := hid ((D6.out.trans hc7 (fun _ h _ => .inl h)).trans CS.out (fun _ h _ => .inr h))
  clear hw7 hc7 hr7 eq7 z fz hw7' CS
  clear H3 H4' H5' H6' P4 P4' P5 P5' P6 P6' P7 E3 E4 E5 E6 D4 D5 D6
  refine (refcount_r H7'.out hn).mono ?_
  rintro e w8 ⟨q, rfl, hqn, hc8, at8, bad8, hr8, eq8⟩
  have EQ1 := hid eq8
  have PL := hid (show p < w7'.heap.size from lt_of_blk P7'.out)
  have D8 := hid (D7.out.trans hc8 (fun _ h _ => .inl h))
  have L0 := hid (show SeqAt ruleK 127 rdRule w8 B g A n c b p 7 100 #[.int .i64 u1, .int .i64 u2, .int .i64 u3, .int .i64 u4, .int .i64 u5, .int .i64 u6, .int .i64 u7, .slice none 0 0, .slice none 0 0] (left b at8 bad8) 0 [] none 0 at8 bad8 w8 from ⟨rfl, hc8.blk P7'.out hpg, Vec.nil _ _ _ _ _, Chg.refl _ _, hr8, by cases bad8 <;> simp [left, rdList]⟩)
  have HPL := hid (show B ≤ p ∧ p < w8.heap.size from ⟨by have := H.out.low; have := HG.out; omega, Nat.lt_of_lt_of_le PL.out hc8.size⟩)
  have HPG8 := hid (show g < w8.heap.size from hr8.lt)
  have hqn2 : (q : Int) ≤ 1000000 := by omega
  clear hc8 hr8 eq8
  go_wp2_with fail
  go_loopw [5] (fun i wr => ∃ (k : Nat) (us : List Rule) (A' : Option Addr) (c' at' : Nat) (bad' : Bool), k ≤ q ∧ i = .int .i64 k ∧ SeqAt ruleK 127 rdRule w8 B g A n c b p 7 100 #[.int .i64 u1, .int .i64 u2, .int .i64 u3, .int .i64 u4, .int .i64 u5, .int .i64 u6, .int .i64 u7, .slice none 0 0, .slice none 0 0] (left b at8 bad8) k us A' c' at' bad' wr) (fun i _ => q - (intOf i).toNat)
  case atStart => exact ⟨0, [], none, 0, at8, bad8, Nat.zero_le _, rfl, L0.out⟩
  case round =>
    obtain ⟨k, us, A', c', at', bad', hk, rfl, hT⟩ := hrel
    have HT := hid hT
    have hd3 := hT.rd.cells.2.2
    clear hT
    by_cases hgo : k < q ∧ bad' = false
    · obtain ⟨hlt, rfl⟩ := hgo
      have hlt2 : (k : Int) < (q : Int) := by omega
      go_wp2_with fail
      obtain ⟨M, hMM⟩ : ∃ M : Nat → Prop, ∀ ii, M ii ↔ ((Value.slice A' k c').ownBlock = some ii ∨ ii = g) := ⟨_, fun _ => Iff.rfl⟩
      have MM := hid hMM
      have HOB := hid (show ∀ jj, (Value.slice A' k c').ownBlock = some jj → jj ≠ p ∧ jj ≠ g from fun jj hj => ⟨by have := HT.out.vec.inS jj hj; have := HPL.out.2; omega, fun e => HT.out.vec.ne HT.out.rd.blk (by decide) (e ▸ hj)⟩)
      have hcell0 : ∀ wx, Chg M wr wx → wx.cell? ⟨p, 7, none⟩ = some (.slice A' k c') := fun wx hx => hx.cell (by rw [cellAt HT.out.blk]; rfl) (fun h => by rcases (MM.out _).1 h with h | h; exact (HOB.out _ h).1 rfl; exact hpg h)
      have HKL := hid HT.out.len
      clear hMM hd3
      refine wpB_start (fun wx : World => Chg M wr wx) (by kernel_rfl) ?_
      have hHeld : (fun wx : World => Chg M wr wx) _ := (by first | assumption | exact Chg.drew (Chg.refl _ _) | (show _ ∧ _; refine ⟨?_, ?_⟩ <;> assumption) | (first | assumption | exact hHeld.alloc _ | exact hHeld.trans hcr (fun _ h _ => (MM.out _).2 (.inr h)) | exact hHeld.trans h2 (fun _ h _ => (MM.out _).2 (.inl h))))
      -- 0: t44 := fieldAddr 100 t3 3 : 0
      refine wpB_take (i := 0) (v := ?_) (get_of_drop rfl) (by kernel_rfl) (by kernel_rfl) (by kernel_rfl) (by kernel_rfl) (fun _ _ _ h => h) (Or.inl ⟨by rfl, ?_⟩) hHeld ?_
      rotate_left
      · (intro w hSw; (try dsimp only at hSw); go_simp <;> with_reducible rfl)
      try simp only [Act.put, List.setIfInBounds_toArray, List.set_cons_zero, List.set_cons_succ]
      -- 1: t45 := fieldAddr 98 t44 4 : 0
      refine wpB_take (i := 1) (v := ?_) (get_of_drop rfl) (by kernel_rfl) (by kernel_rfl) (by kernel_rfl) (by kernel_rfl) (fun _ _ _ h => h) (Or.inl ⟨by rfl, ?_⟩) hHeld ?_
      rotate_left
      · (intro w hSw; (try dsimp only at hSw); go_simp <;> with_reducible rfl)
      try simp only [Act.put, List.setIfInBounds_toArray, List.set_cons_zero, List.set_cons_succ]
      -- 2: t46 := load 96 t45 : 96
      refine wpB_take (i := 2) (v := ?_) (get_of_drop rfl) (by kernel_rfl) (by kernel_rfl) (by kernel_rfl) (by kernel_rfl) (fun _ _ _ h => h) (Or.inl ⟨by rfl, ?_⟩) hHeld ?_
      rotate_left
      · (intro w hSw; (try dsimp only at hSw); go_simp <;> with_reducible rfl)
      try simp only [Act.put, List.setIfInBounds_toArray, List.set_cons_zero, List.set_cons_succ]
      -- 3: t47 := move t0 : 116
      refine wpB_take (i := 3) (v := ?_) (get_of_drop rfl) (by kernel_rfl) (by kernel_rfl) (by kernel_rfl) (by kernel_rfl) (fun _ _ _ h => h) (Or.inl ⟨by rfl, ?_⟩) hHeld ?_
      rotate_left
      · (intro w hSw; (try dsimp only at hSw); go_simp <;> with_reducible rfl)
      try simp only [Act.put, List.setIfInBounds_toArray, List.set_cons_zero, List.set_cons_succ]
      -- 4: t48 := CALL fn91(t47) : 127
      refine wpB_act (i := 4) (by kernel_rfl) (get_of_drop rfl) (fun K hK => ?_)
      go_simp
      refine (refrule_r (HT.out.rd.chg (Chg.refl (fun _ => False) wr).drew (fun _ h => h.elim) (fun h => h)) hn).mono ?_
      rintro e wy ⟨y, hyw, rfl, hcr, at2, bad2, hrr, eqr⟩
      have H5 := hid hrr
      have H6 := hid eqr
      have HYW := hid hyw
      have CR := hid (show Chg (fun k => k = g) wr wy from ((Chg.refl (fun k => k = g) wr).drew).trans hcr (fun _ h _ => h))
      have HVY := hid (HT.out.vec.chg CR.out (fun jj hj e => (HOB.out jj hj).2 e) (fun jj hj _ hl e => by subst e; have := HT.out.rd.lt; have := HPL.out.2; have h9 : _ ≤ _ := hj; have := HPG8.out; omega))
      refine hK.out _ _ ?_ (fun hHeld2 => ?_)
      · (first | assumption | exact hHeld.alloc _ | exact hHeld.trans hcr (fun _ h _ => (MM.out _).2 (.inr h)) | exact hHeld.trans h2 (fun _ h _ => (MM.out _).2 (.inl h)))
      clear hHeld hK K
      have hHeld := hHeld2
      clear hHeld2
      try simp only [Act.put, List.setIfInBounds_toArray, List.set_cons_zero, List.set_cons_succ]
      -- 5: t49 := buildSlice 96 1 [⟨0, t48⟩] : 96
      refine wpB_act (i := 5) (by kernel_rfl) (get_of_drop rfl) (fun K hK => ?_)
      go_simp
      refine hK.out _ _ ?_ (fun hHeld2 => ?_)
      · (first | assumption | exact hHeld.alloc _ | exact hHeld.trans hcr (fun _ h _ => (MM.out _).2 (.inr h)) | exact hHeld.trans h2 (fun _ h _ => (MM.out _).2 (.inl h)))
      clear hHeld hK K
      have hHeld := hHeld2
      clear hHeld2
      try simp only [Act.put, List.setIfInBounds_toArray, List.set_cons_zero, List.set_cons_succ]
      -- 6: t50 := append(t46, t49) types [96, 96] : 96
      refine wpB_act (i := 6) (by kernel_rfl) (get_of_drop rfl) (fun K hK => ?_)
      refine vec_step (d := ruleK) _ rfl (.tmp 46) (.tmp 49) 96 127 (.agg #[.int .i64 0, .int .i64 0, .int .i64 0, .int .i64 0, .string ByteArray.empty]) 48 rfl Try.underlying96 infoRule rfl (by decide) (by decide) (.slice A' k c') rfl (HVY.out.chg (((Chg.refl (fun _ => False) wy).alloc _)) (fun _ _ h => h) (fun _ _ _ _ h => h)) (some ⟨wy.heap.size, 0, none⟩) 1 1 (ys := [y]) rfl (by simp) (by omega) rfl (new_sees wy (ruleCells y).toArray 127) (Ty.Row.one_ (rule_shut HYW.out)) (by rw [HKL.out]; omega) ?_
      have HH := hid hHeld
      rw [HKL.out]
      intro A4 c4 w4' h1 h2
      have f0' : w4'.frozen? ⟨p, 7, none⟩ = false := freeAt ((HH.out.trans h2 (fun _ h _ => (MM.out _).2 (.inl h))).blk HT.out.blk (fun h => by rcases (MM.out _).1 h with h | h; exact (HOB.out _ h).1 rfl; exact hpg h)) 7
      have c0' : w4'.cell? ⟨p, 7, none⟩ = some (.slice A' k c') := hcell0 _ (HH.out.trans h2 (fun _ h _ => (MM.out _).2 (.inl h)))
      refine hK.out _ _ ?_ (fun hHeld2 => ?_)
      · (first | assumption | exact hHeld.alloc _ | exact hHeld.trans hcr (fun _ h _ => (MM.out _).2 (.inr h)) | exact hHeld.trans h2 (fun _ h _ => (MM.out _).2 (.inl h)))
      clear hHeld hK K
      have hHeld := hHeld2
      clear hHeld2
      try simp only [Act.put, List.setIfInBounds_toArray, List.set_cons_zero, List.set_cons_succ]
      -- 7: t51 := fieldAddr 100 t3 3 : 0
      refine wpB_take (i := 7) (v := ?_) (get_of_drop rfl) (by kernel_rfl) (by kernel_rfl) (by kernel_rfl) (by kernel_rfl) (fun _ _ _ h => h) (Or.inl ⟨by rfl, ?_⟩) hHeld ?_
      rotate_left
      · (intro w hSw; (try dsimp only at hSw); go_simp <;> with_reducible rfl)
      try simp only [Act.put, List.setIfInBounds_toArray, List.set_cons_zero, List.set_cons_succ]
      -- 8: t52 := fieldAddr 98 t51 4 : 0
      refine wpB_take (i := 8) (v := ?_) (get_of_drop rfl) (by kernel_rfl) (by kernel_rfl) (by kernel_rfl) (by kernel_rfl) (fun _ _ _ h => h) (Or.inl ⟨by rfl, ?_⟩) hHeld ?_
      rotate_left
      · (intro w hSw; (try dsimp only at hSw); go_simp <;> with_reducible rfl)
      try simp only [Act.put, List.setIfInBounds_toArray, List.set_cons_zero, List.set_cons_succ]
      -- 9: t- := store 96 t52 t50 : 0 (BARRIER)
      refine wpB_bar (i := 9) (by kernel_rfl) (get_of_drop rfl) (by kernel_rfl) (fun K hK => ?_)
      go_simp
      refine hK.out _ _ (fun _ : World => True) ?_
      clear hHeld hK K
      have hHeld := trivial
      try simp only [Act.put, List.setIfInBounds_toArray, List.set_cons_zero, List.set_cons_succ]
      refine wpB_done (by kernel_rfl) ?_ _
      have HN := hid (HT.out.step (by decide) (w4 := w4') (A4 := A4) (c4 := c4) hpg CR.out H5.out H6.out HPL.out (h1.mono (fun k h _ => by rcases h with h | h; exact h; exact Nat.le_trans (Nat.le_trans HT.out.chg.size CR.out.size) (Nat.le_trans (((Chg.refl (fun _ => False) wy).alloc _)).size h)) (fun k h _ => h)) (((Chg.refl (fun jj => (Value.slice A' k c').ownBlock = some jj) wy).alloc _).trans h2 (fun _ h _ => h)))
      clear h1 h2 hHeld hcell0 f0' c0' hcr hrr eqr hyw
      go_wp2_with fail
      go_roundw
      case measure => simp [intOf]; omega
      case rel => first | exact ⟨k + 1, _, _, _, _, _, hlt, by go_num, HN.out⟩ | ((repeat apply Exists.intro); exact ⟨⟨k + 1, _, _, _, _, _, hlt, by go_num, HN.out⟩, rfl⟩)
    · have HD1 := hid (HT.out.done EQ1.out hk (by cases bad' with | true => exact .inr rfl | false => exact .inl (by have : ¬ k < q := fun h => hgo ⟨h, rfl⟩; omega)))
      have hex : ¬ (k : Int) < (q : Int) ∨ ((k : Int) < (q : Int) ∧ bad' = true) := by
        by_cases h1 : k < q
        · right
          refine ⟨by omega, ?_⟩
          cases bad' with
          | true => rfl
          | false => exact absurd ⟨h1, rfl⟩ hgo
        · left; omega
      clear hgo
      have HPT := hid HT.out.blk
      have HV1 := hid HT.out.vec
      have HC1 := hid HT.out.chg
      have HR1 := hid HT.out.rd
      have HUL := hid HT.out.len
      rcases hex with hex | ⟨hex, rfl⟩
      all_goals
        go_wp2_with fail
        refine (refcount_r HR1.out hn).mono ?_
        rintro e w9 ⟨q2, rfl, hqn9, hc9, at9, bad9, hr9, eq9⟩
        have EQ2 := hid eq9
        have HV2 := hid (HV1.out.chg hc9 (fun j hj e => by subst e; have := HV1.out.inS _ hj; have := HPG8.out; omega) (fun j hj _ _ e => by subst e; have := HPG8.out; omega))
        have L9 := hid (show SeqAt (Ty.int .i64) 3 rdNum w9 B g A n c b p 8 100 #[.int .i64 u1, .int .i64 u2, .int .i64 u3, .int .i64 u4, .int .i64 u5, .int .i64 u6, .int .i64 u7, .slice A' k c', .slice none 0 0] (left b at9 bad9) 0 [] none 0 at9 bad9 w9 from ⟨rfl, hc9.blk HPT.out hpg, Vec.nil _ _ _ _ _, Chg.refl _ _, hr9, by cases bad9 <;> simp [left, rdList]⟩)
        have HPL9 := hid (show B ≤ p ∧ p < w9.heap.size from ⟨HPL.out.1, Nat.lt_of_lt_of_le HPL.out.2 (Nat.le_trans HC1.out.size hc9.size)⟩)
        have D9 := hid ((D8.out.trans HC1.out (fun _ h _ => h)).trans hc9 (fun _ h _ => .inl h))
        have HPG9 := hid (show g < w9.heap.size from hr9.lt)
        have hqn29 : (q2 : Int) ≤ 1000000 := by omega
        clear hc9 hr9 eq9 hd3 hex
        go_wp2_with fail
        go_loopw [6] (fun i wr => ∃ (j : Nat) (vs : List Int) (A2 : Option Addr) (c2 at' : Nat) (bad' : Bool), j ≤ q2 ∧ i = .int .i64 j ∧ SeqAt (Ty.int .i64) 3 rdNum w9 B g A n c b p 8 100 #[.int .i64 u1, .int .i64 u2, .int .i64 u3, .int .i64 u4, .int .i64 u5, .int .i64 u6, .int .i64 u7, .slice A' k c', .slice none 0 0] (left b at9 bad9) j vs A2 c2 at' bad' wr) (fun i _ => q2 - (intOf i).toNat)
        case atStart => exact ⟨0, [], none, 0, at9, bad9, Nat.zero_le _, rfl, L9.out⟩
        case round =>
          obtain ⟨j, vs, A2, c2, atb, badb, hj, rfl, hT⟩ := hrel
          have HS := hid hT
          have hd3 := hT.rd.cells.2.2
          clear hT
          by_cases hgo : j < q2 ∧ badb = false
          · obtain ⟨hlt, rfl⟩ := hgo
            have hlt2 : (j : Int) < (q2 : Int) := by omega
            go_wp2_with fail
            obtain ⟨M, hMM⟩ : ∃ M : Nat → Prop, ∀ ii, M ii ↔ ((Value.slice A2 j c2).ownBlock = some ii ∨ ii = g) := ⟨_, fun _ => Iff.rfl⟩
            have MM := hid hMM
            have HOB := hid (show ∀ jj, (Value.slice A2 j c2).ownBlock = some jj → jj ≠ p ∧ jj ≠ g from fun jj hj => ⟨by have := HS.out.vec.inS jj hj; have := HPL9.out.2; omega, fun e => HS.out.vec.ne HS.out.rd.blk (by decide) (e ▸ hj)⟩)
            have hcell0 : ∀ wx, Chg M wr wx → wx.cell? ⟨p, 8, none⟩ = some (.slice A2 j c2) := fun wx hx => hx.cell (by rw [cellAt HS.out.blk]; rfl) (fun h => by rcases (MM.out _).1 h with h | h; exact (HOB.out _ h).1 rfl; exact hpg h)
            have HKL := hid HS.out.len
            clear hMM hd3
            refine wpB_start (fun wx : World => Chg M wr wx) (by kernel_rfl) ?_
            have hHeld : (fun wx : World => Chg M wr wx) _ := (by first | assumption | exact Chg.drew (Chg.refl _ _) | (show _ ∧ _; refine ⟨?_, ?_⟩ <;> assumption) | (first | assumption | exact hHeld.alloc _ | exact hHeld.trans hcr (fun _ h _ => (MM.out _).2 (.inr h)) | exact hHeld.trans h2 (fun _ h _ => (MM.out _).2 (.inl h))))
            -- 0: t67 := fieldAddr 100 t3 3 : 0
            refine wpB_take (i := 0) (v := ?_) (get_of_drop rfl) (by kernel_rfl) (by kernel_rfl) (by kernel_rfl) (by kernel_rfl) (fun _ _ _ h => h) (Or.inl ⟨by rfl, ?_⟩) hHeld ?_
            rotate_left
            · (intro w hSw; (try dsimp only at hSw); go_simp <;> with_reducible rfl)
            try simp only [Act.put, List.setIfInBounds_toArray, List.set_cons_zero, List.set_cons_succ]
            -- 1: t68 := fieldAddr 98 t67 5 : 0
            refine wpB_take (i := 1) (v := ?_) (get_of_drop rfl) (by kernel_rfl) (by kernel_rfl) (by kernel_rfl) (by kernel_rfl) (fun _ _ _ h => h) (Or.inl ⟨by rfl, ?_⟩) hHeld ?_
            rotate_left
            · (intro w hSw; (try dsimp only at hSw); go_simp <;> with_reducible rfl)
            try simp only [Act.put, List.setIfInBounds_toArray, List.set_cons_zero, List.set_cons_succ]
            -- 2: t69 := load 48 t68 : 48
            refine wpB_take (i := 2) (v := ?_) (get_of_drop rfl) (by kernel_rfl) (by kernel_rfl) (by kernel_rfl) (by kernel_rfl) (fun _ _ _ h => h) (Or.inl ⟨by rfl, ?_⟩) hHeld ?_
            rotate_left
            · (intro w hSw; (try dsimp only at hSw); go_simp <;> with_reducible rfl)
            try simp only [Act.put, List.setIfInBounds_toArray, List.set_cons_zero, List.set_cons_succ]
            -- 3: t70 := move t0 : 116
            refine wpB_take (i := 3) (v := ?_) (get_of_drop rfl) (by kernel_rfl) (by kernel_rfl) (by kernel_rfl) (by kernel_rfl) (fun _ _ _ h => h) (Or.inl ⟨by rfl, ?_⟩) hHeld ?_
            rotate_left
            · (intro w hSw; (try dsimp only at hSw); go_simp <;> with_reducible rfl)
            try simp only [Act.put, List.setIfInBounds_toArray, List.set_cons_zero, List.set_cons_succ]
            -- 4: t71 := CALL fn64(t70) : 3
            refine wpB_act (i := 4) (by kernel_rfl) (get_of_drop rfl) (fun K hK => ?_)
            go_simp
            refine (refnum_r (HS.out.rd.chg (Chg.refl (fun _ => False) wr).drew (fun _ h => h.elim) (fun h => h)) hn).mono ?_
            rintro e wy ⟨y, rfl, hyw, hcr, at2, bad2, hrr, eqr⟩
            have H5 := hid hrr
            have H6 := hid eqr
            have HYW := hid hyw
            have CR := hid (show Chg (fun k => k = g) wr wy from ((Chg.refl (fun k => k = g) wr).drew).trans hcr (fun _ h _ => h))
            have HVY := hid (HS.out.vec.chg CR.out (fun jj hj e => (HOB.out jj hj).2 e) (fun jj hj _ hl e => by subst e; have := HS.out.rd.lt; have := HPL9.out.2; have h9 : _ ≤ _ := hj; have := HPG9.out; omega))
            refine hK.out _ _ ?_ (fun hHeld2 => ?_)
            · (first | assumption | exact hHeld.alloc _ | exact hHeld.trans hcr (fun _ h _ => (MM.out _).2 (.inr h)) | exact hHeld.trans h2 (fun _ h _ => (MM.out _).2 (.inl h)))
            clear hHeld hK K
            have hHeld := hHeld2
            clear hHeld2
            try simp only [Act.put, List.setIfInBounds_toArray, List.set_cons_zero, List.set_cons_succ]
            -- 5: t72 := buildSlice 48 1 [⟨0, t71⟩] : 48
            refine wpB_act (i := 5) (by kernel_rfl) (get_of_drop rfl) (fun K hK => ?_)
            go_simp
            refine hK.out _ _ ?_ (fun hHeld2 => ?_)
            · (first | assumption | exact hHeld.alloc _ | exact hHeld.trans hcr (fun _ h _ => (MM.out _).2 (.inr h)) | exact hHeld.trans h2 (fun _ h _ => (MM.out _).2 (.inl h)))
            clear hHeld hK K
            have hHeld := hHeld2
            clear hHeld2
            try simp only [Act.put, List.setIfInBounds_toArray, List.set_cons_zero, List.set_cons_succ]
            -- 6: t73 := append(t69, t72) types [48, 48] : 48
            refine wpB_act (i := 6) (by kernel_rfl) (get_of_drop rfl) (fun K hK => ?_)
            refine vec_step (d := (Ty.int .i64)) _ rfl (.tmp 69) (.tmp 72) 48 3 (.int .i64 0) 8 rfl Try.underlying48 infoInt rfl (by decide) (by decide) (.slice A2 j c2) rfl (HVY.out.chg (((Chg.refl (fun _ => False) wy).alloc _)) (fun _ _ h => h) (fun _ _ _ _ h => h)) (some ⟨wy.heap.size, 0, none⟩) 1 1 (ys := [y]) rfl (by simp) (by omega) rfl (new_sees wy ([Value.int .i64 y]).toArray 3) (Ty.Row.one_ ⟨rfl, HYW.out⟩) (by rw [HKL.out]; omega) ?_
            have HH := hid hHeld
            rw [HKL.out]
            intro A4 c4 w4' h1 h2
            have f0' : w4'.frozen? ⟨p, 8, none⟩ = false := freeAt ((HH.out.trans h2 (fun _ h _ => (MM.out _).2 (.inl h))).blk HS.out.blk (fun h => by rcases (MM.out _).1 h with h | h; exact (HOB.out _ h).1 rfl; exact hpg h)) 8
            have c0' : w4'.cell? ⟨p, 8, none⟩ = some (.slice A2 j c2) := hcell0 _ (HH.out.trans h2 (fun _ h _ => (MM.out _).2 (.inl h)))
            refine hK.out _ _ ?_ (fun hHeld2 => ?_)
            · (first | assumption | exact hHeld.alloc _ | exact hHeld.trans hcr (fun _ h _ => (MM.out _).2 (.inr h)) | exact hHeld.trans h2 (fun _ h _ => (MM.out _).2 (.inl h)))
            clear hHeld hK K
            have hHeld := hHeld2
            clear hHeld2
            try simp only [Act.put, List.setIfInBounds_toArray, List.set_cons_zero, List.set_cons_succ]
            -- 7: t74 := fieldAddr 100 t3 3 : 0
            refine wpB_take (i := 7) (v := ?_) (get_of_drop rfl) (by kernel_rfl) (by kernel_rfl) (by kernel_rfl) (by kernel_rfl) (fun _ _ _ h => h) (Or.inl ⟨by rfl, ?_⟩) hHeld ?_
            rotate_left
            · (intro w hSw; (try dsimp only at hSw); go_simp <;> with_reducible rfl)
            try simp only [Act.put, List.setIfInBounds_toArray, List.set_cons_zero, List.set_cons_succ]
            -- 8: t75 := fieldAddr 98 t74 5 : 0
            refine wpB_take (i := 8) (v := ?_) (get_of_drop rfl) (by kernel_rfl) (by kernel_rfl) (by kernel_rfl) (by kernel_rfl) (fun _ _ _ h => h) (Or.inl ⟨by rfl, ?_⟩) hHeld ?_
            rotate_left
            · (intro w hSw; (try dsimp only at hSw); go_simp <;> with_reducible rfl)
            try simp only [Act.put, List.setIfInBounds_toArray, List.set_cons_zero, List.set_cons_succ]
            -- 9: t- := store 48 t75 t73 : 0 (BARRIER)
            refine wpB_bar (i := 9) (by kernel_rfl) (get_of_drop rfl) (by kernel_rfl) (fun K hK => ?_)
            go_simp
            refine hK.out _ _ (fun _ : World => True) ?_
            clear hHeld hK K
            have hHeld := trivial
            try simp only [Act.put, List.setIfInBounds_toArray, List.set_cons_zero, List.set_cons_succ]
            refine wpB_done (by kernel_rfl) ?_ _
            have HN := hid (HS.out.step (by decide) (w4 := w4') (A4 := A4) (c4 := c4) hpg CR.out H5.out H6.out HPL9.out (h1.mono (fun k h _ => by rcases h with h | h; exact h; exact Nat.le_trans (Nat.le_trans HS.out.chg.size CR.out.size) (Nat.le_trans (((Chg.refl (fun _ => False) wy).alloc _)).size h)) (fun k h _ => h)) (((Chg.refl (fun jj => (Value.slice A2 j c2).ownBlock = some jj) wy).alloc _).trans h2 (fun _ h _ => h)))
            clear h1 h2 hHeld hcell0 f0' c0' hcr hrr eqr hyw
            go_wp2_with fail
            go_roundw
            case measure => simp [intOf]; omega
            case rel => first | exact ⟨j + 1, _, _, _, _, _, hlt, by go_num, HN.out⟩ | ((repeat apply Exists.intro); exact ⟨⟨j + 1, _, _, _, _, _, hlt, by go_num, HN.out⟩, rfl⟩)
          · have HD2 := hid (HS.out.done EQ2.out hj (by cases badb with | true => exact .inr rfl | false => exact .inl (by have : ¬ j < q2 := fun h => hgo ⟨h, rfl⟩; omega)))
            have hex : ¬ (j : Int) < (q2 : Int) ∨ ((j : Int) < (q2 : Int) ∧ badb = true) := by
              by_cases h1 : j < q2
              · right
                refine ⟨by omega, ?_⟩
                cases badb with
                | true => rfl
                | false => exact absurd ⟨h1, rfl⟩ hgo
              · left; omega
            clear hgo
            have BP := hid (show wr.heap[p]? = some (.cells #[.int .i64 u1, .int .i64 u2, .int .i64 u3, .int .i64 u4, .int .i64 u5, .int .i64 u6, .int .i64 u7, .slice A' k c', .slice A2 j c2] 100 (0, 0)) from HS.out.blk)
            have D10 := hid (D9.out.trans HS.out.chg (fun _ h _ => h))
            have BT := hid (D10.out.blk (CP.out.blk (C3.out.blk B0.out (fun e => hgw e.symm)) (fun h => h)) (fun e => by rcases e with e | e; exact hgw e.symm; omega))
            have hwp : w.heap.size ≠ p := by omega
            have x0 : wr.cell? ⟨p, 0, none⟩ = _ := cellAt BP.out 0
            have y0 : wr.cell? ⟨w.heap.size, 0, none⟩ = _ := cellAt BT.out 0
            have f0 : wr.frozen? ⟨w.heap.size, 0, none⟩ = false := freeAt BT.out 0
            have x1 : wr.cell? ⟨p, 1, none⟩ = _ := cellAt BP.out 1
            have y1 : wr.cell? ⟨w.heap.size, 1, none⟩ = _ := cellAt BT.out 1
            have f1 : wr.frozen? ⟨w.heap.size, 1, none⟩ = false := freeAt BT.out 1
            have x2 : wr.cell? ⟨p, 2, none⟩ = _ := cellAt BP.out 2
            have y2 : wr.cell? ⟨w.heap.size, 2, none⟩ = _ := cellAt BT.out 2
            have f2 : wr.frozen? ⟨w.heap.size, 2, none⟩ = false := freeAt BT.out 2
            have x3 : wr.cell? ⟨p, 3, none⟩ = _ := cellAt BP.out 3
            have y3 : wr.cell? ⟨w.heap.size, 3, none⟩ = _ := cellAt BT.out 3
            have f3 : wr.frozen? ⟨w.heap.size, 3, none⟩ = false := freeAt BT.out 3
            have x4 : wr.cell? ⟨p, 4, none⟩ = _ := cellAt BP.out 4
            have y4 : wr.cell? ⟨w.heap.size, 4, none⟩ = _ := cellAt BT.out 4
            have f4 : wr.frozen? ⟨w.heap.size, 4, none⟩ = false := freeAt BT.out 4
            have x5 : wr.cell? ⟨p, 5, none⟩ = _ := cellAt BP.out 5
            have y5 : wr.cell? ⟨w.heap.size, 5, none⟩ = _ := cellAt BT.out 5
            have f5 : wr.frozen? ⟨w.heap.size, 5, none⟩ = false := freeAt BT.out 5
            have x6 : wr.cell? ⟨p, 6, none⟩ = _ := cellAt BP.out 6
            have y6 : wr.cell? ⟨w.heap.size, 6, none⟩ = _ := cellAt BT.out 6
            have f6 : wr.frozen? ⟨w.heap.size, 6, none⟩ = false := freeAt BT.out 6
            have x7 : wr.cell? ⟨p, 7, none⟩ = _ := cellAt BP.out 7
            have y7 : wr.cell? ⟨w.heap.size, 7, none⟩ = _ := cellAt BT.out 7
            have f7 : wr.frozen? ⟨w.heap.size, 7, none⟩ = false := freeAt BT.out 7
            have x8 : wr.cell? ⟨p, 8, none⟩ = _ := cellAt BP.out 8
            have y8 : wr.cell? ⟨w.heap.size, 8, none⟩ = _ := cellAt BT.out 8
            have f8 : wr.frozen? ⟨w.heap.size, 8, none⟩ = false := freeAt BT.out 8
            simp only [List.getElem?_toArray, List.getElem?_cons_zero, List.getElem?_cons_succ] at x0 y0 x1 y1 x2 y2 x3 y3 x4 y4 x5 y5 x6 y6 x7 y7 x8 y8
            rcases hex with hex | ⟨hex, rfl⟩
            all_goals
              go_wp2_with fail
              obtain ⟨PB, PC⟩ := put_blk (entryCells (mkEntry [u1, u2, u3, u4, u5, u6, u7] us vs) A' k c' A2 j c2) wr _ BT.out rfl
              generalize hW : (((((((((wr.setCell ⟨w.heap.size, 0, none⟩ (.int .i64 u1)).setCell ⟨w.heap.size, 1, none⟩ (.int .i64 u2)).setCell ⟨w.heap.size, 2, none⟩ (.int .i64 u3)).setCell ⟨w.heap.size, 3, none⟩ (.int .i64 u4)).setCell ⟨w.heap.size, 4, none⟩ (.int .i64 u5)).setCell ⟨w.heap.size, 5, none⟩ (.int .i64 u6)).setCell ⟨w.heap.size, 6, none⟩ (.int .i64 u7)).setCell ⟨w.heap.size, 7, none⟩ (.slice A' k c')).setCell ⟨w.heap.size, 8, none⟩ (.slice A2 j c2)) = W
              have PB' : W.heap[w.heap.size]? = some (.cells (entryCells (mkEntry [u1, u2, u3, u4, u5, u6, u7] us vs) A' k c' A2 j c2).toArray 100 (0, 0)) := by rw [← hW]; exact PB
              have PC' : Chg (fun k => k = w.heap.size) wr W := by rw [← hW]; exact PC
              clear PB PC hW x0 y0 x1 y1 x2 y2 x3 y3 x4 y4 x5 y5 x6 y6 x7 y7 x8 y8 f0 f1 f2 f3 f4 f5 f6 f7 f8 hd3
              have z0 : W.cell? ⟨w.heap.size, 0, none⟩ = some (.int .i64 u1) := by rw [cellAt PB']; rfl
              have z1 : W.cell? ⟨w.heap.size, 1, none⟩ = some (.int .i64 u2) := by rw [cellAt PB']; rfl
              have z2 : W.cell? ⟨w.heap.size, 2, none⟩ = some (.int .i64 u3) := by rw [cellAt PB']; rfl
              have z3 : W.cell? ⟨w.heap.size, 3, none⟩ = some (.int .i64 u4) := by rw [cellAt PB']; rfl
              have z4 : W.cell? ⟨w.heap.size, 4, none⟩ = some (.int .i64 u5) := by rw [cellAt PB']; rfl
              have z5 : W.cell? ⟨w.heap.size, 5, none⟩ = some (.int .i64 u6) := by rw [cellAt PB']; rfl
              have z6 : W.cell? ⟨w.heap.size, 6, none⟩ = some (.int .i64 u7) := by rw [cellAt PB']; rfl
              have z7 : W.cell? ⟨w.heap.size, 7, none⟩ = some (.slice A' k c') := by rw [cellAt PB']; rfl
              have z8 : W.cell? ⟨w.heap.size, 8, none⟩ = some (.slice A2 j c2) := by rw [cellAt PB']; rfl
              refine bodyPost_ret (v := .agg #[.int .i64 u1, .int .i64 u2, .int .i64 u3, .int .i64 u4, .int .i64 u5, .int .i64 u6, .int .i64 u7, .slice A' k c', .slice A2 j c2]) (by simp [results, Try.results80, go_sem, z0, z1, z2, z3, z4, z5, z6, z7, z8]) rfl ?_
              have s8 := D8.out.size
              have s3 := C3.out.size
              have sp := CP.out.size
              have s1 := HC1.out.size
              have s0 := C0.out.size
              have s9 := HPL9.out.2
              have s88 := HPL.out.2
              have gl := HG.out
              have ch := D10.out
              refine ⟨mkEntry [u1, u2, u3, u4, u5, u6, u7] us vs, A', k, c', A2, j, c2, rfl, ⟨?_, ?_, ?_⟩, ?_, atb, _, HS.out.rd.chg PC' (fun k hk => by subst hk; exact Nat.le_trans H.out.low (Nat.le_of_lt gl)) hgw, thenRd_eq _ (thenRd_eq _ E7.out HD1.out) HD2.out⟩
              · intro u hu
                simp [mkEntry, Entry.nums] at hu
                rcases hu with rfl | rfl | rfl | rfl | rfl | rfl | rfl
                · exact W1.out
                · exact W2.out
                · exact W3.out
                · exact W4.out
                · exact W5.out
                · exact W6.out
                · exact W7.out
              · have q1 := (HV2.out.chg HS.out.chg (fun j' hj' e => by have := HV2.out.inS _ hj'; have := HPL.out.2; have := HPG8.out; rcases e with e | e <;> omega) (fun j' hj' _ _ e => by have := HPL.out.2; have := HPG8.out; rcases e with e | e <;> omega)).chg PC' (fun j' hj' e => by have := HV2.out.inS _ hj'; omega) (fun j' hj' _ _ e => by omega)
                exact q1.at.mono (fun k hk => by rcases hk with hk | hk <;> omega)
              · have q1 := HS.out.vec.chg PC' (fun j' hj' e => by have := HS.out.vec.inS _ hj'; omega) (fun j' hj' _ _ e => by omega)
                exact q1.at.mono (fun k hk => by rcases hk with hk | hk <;> omega)
              · have q0 : Chg (fun k => k = g) w w3' := ((C0.out.mono (S' := fun k => k = g) (fun _ h _ => h.elim)).trans C3.out (fun _ h _ => h)).trans CP.out (fun _ h _ => h.elim)
                refine (q0.trans ch (fun k hk hl => ?_)).trans PC' (fun k hk hl => ?_)
                · rcases hk with hk | hk
                  · exact hk
                  · omega
                · omega
end Go.Proofs.Ytfpjickdkkhndaa.Pa


/- The document's reader: its log. -/

namespace Go.Proofs.Ytfpjickdkkhndaa.Pa

set_option linter.unusedVariables false

set_option linter.unusedSimpArgs false

open Go.RowKit Go.Proofs.Ytfpjickdkkhndaa.C

attribute [local go_sem] max2_int min2_int max_two min_two

theorem infoEntryR : (Try.prog.info? 100).map (fun i => (i.zero, i.size, i.bytes)) = some (some (.agg #[.int .i64 0, .int .i64 0, .int .i64 0, .int .i64 0, .int .i64 0, .int .i64 0, .int .i64 0, .slice none 0 0, .slice none 0 0]), 9, 104) := by kernel_rfl
structure LogAt (w : World) (B g : Nat) (A : Option Addr) (n c : Nat) (b : List UInt8) (Y : Option (List UInt8)) (k : Nat) (us : List Entry) (A' : Option Addr) (c' at' : Nat) (bad' : Bool) (wr : World) : Prop where
  len : us.length = k
  vec : Vec entryK 100 wr (fun k => w.heap.size ≤ k) (fun k => w.heap.size ≤ k) (.slice A' k c') us
  chg : Chg (fun j => j = g) w wr
  rd : Rf wr B g A n c b at' bad'
  eq : Y.bind (rdList rdEntryR k) = (left b at' bad').map fun r => (us, r)
def RfLog (w : World) (B g : Nat) (A : Option Addr) (n c : Nat) (b : List UInt8) (at_ : Nat) (bad : Bool) (e : Ending) (w' : World) : Prop :=
  ∃ (xs : List Entry) (A' : Option Addr) (c' : Nat), e = .returned (.slice A' xs.length c') ∧ Ty.At entryK w' (fun k => w.heap.size ≤ k) A' xs.length c' xs ∧ Chg (fun k => k = g) w w' ∧ RfTo B g A n c b at_ bad (rdSeq 1 rdEntryR) w' xs
set_option maxHeartbeats 4000000 in
set_option maxRecDepth 100000 in
theorem reflog_r {w : World} {B g : Nat} {A : Option Addr} {n c : Nat} {b : List UInt8} {at_ : Nat} {bad : Bool} (h : Rf w B g A n c b at_ bad) (hn : n ≤ 1000000) :
    Calls Try.prog 65 #[.pointer (some ⟨g, 0, none⟩)] w (RfLog w B g A n c b at_ bad) := by
  have H := hid h
  have HG := hid h.lt
  clear h
  go_enter Try.func65, Try.ntmps65
  go_wp2_with fail
  refine (refcount_r H.out hn).mono ?_
  rintro e w1 ⟨q, rfl, hqn, hc1, at1, bad1, hr1, eq1⟩
  have EQ1 := hid eq1
  have C1 := hid hc1
  have L0 := hid (show LogAt w B g A n c b (left b at1 bad1) 0 [] none 0 at1 bad1 w1 from ⟨rfl, Vec.nil _ _ _ _ _, hc1, hr1, by cases bad1 <;> simp [left, rdList]⟩)
  have hqn2 : (q : Int) ≤ 1000000 := by omega
  clear hc1 hr1 eq1
  go_wp2_with fail
  go_loopw [3, 5] (fun sl i wr => ∃ (k : Nat) (us : List Entry) (A' : Option Addr) (c' at' : Nat) (bad' : Bool), k ≤ q ∧ i = .int .i64 k ∧ sl = .slice A' k c' ∧ LogAt w B g A n c b (left b at1 bad1) k us A' c' at' bad' wr) (fun _ i _ => q - (intOf i).toNat)
  case atStart => exact ⟨0, [], none, 0, at1, bad1, Nat.zero_le _, rfl, rfl, L0.out⟩
  case round =>
    obtain ⟨k, us, A', c', at', bad', hk, rfl, rfl, hT⟩ := hrel
    have HT := hid hT
    have hd3 := hT.rd.cells.2.2
    clear hT
    by_cases hgo : k < q ∧ bad' = false
    · obtain ⟨hlt, rfl⟩ := hgo
      have hlt2 : (k : Int) < (q : Int) := by omega
      go_wp2_with fail
      clear hd3
      refine (refentry_r HT.out.rd hn).mono ?_
      rintro e w3 ⟨y, E1, m1, d1, E2, m2, d2, rfl, hye, hc3, at2, bad2, hr3, eq3⟩
      have H5 := hid hr3
      have H6 := hid eq3
      have HYE := hid (hye.bound)
      have CR := hid hc3
      have HKL := hid HT.out.len
      have HV3 := hid (HT.out.vec.chg hc3 (fun j hj e => HT.out.vec.ne HT.out.rd.blk (by decide) (e ▸ hj)) (fun j hj _ hl e => by subst e; have := HG.out; omega))
      have HROW := hid (show ∀ w', Chg (fun _ => False) w3 w' → Ty.Row entryK w' (fun k' => w.heap.size ≤ k' ∧ (Value.slice A' k c').ownBlock ≠ some k' ∧ k' < w'.heap.size) [y] (Array.toList #[.int .i64 y.view, .int .i64 y.client, .int .i64 y.request, .int .i64 y.dflt, .int .i64 y.closed, .int .i64 y.fuel, .int .i64 y.stack, .slice E1 m1 d1, .slice E2 m2 d2]) from fun w' hc => Ty.Row.one_ (entry_shut ((HYE.out.chg hc (fun _ _ h => h)).mono (fun j hj => ⟨Nat.le_trans HT.out.chg.size hj.1, fun e' => Nat.lt_irrefl _ (Nat.lt_of_lt_of_le (HT.out.vec.lt j e') hj.1), Nat.lt_of_lt_of_le hj.2 hc.size⟩))))
      clear hye hc3 hr3 eq3
      go_wp2_with (first | (at_builtin; refine vec_list (d := entryK) _ rfl (.tmp 20) (.tmp 23) 39 100 (.agg #[.int .i64 0, .int .i64 0, .int .i64 0, .int .i64 0, .int .i64 0, .int .i64 0, .int .i64 0, .slice none 0 0, .slice none 0 0]) 104 rfl Try.underlying39 infoEntryR rfl (by decide) (by decide) (.slice A' k c') rfl (HV3.out.chg ((Chg.refl (fun _ => False) w3).alloc (.cells #[.int .i64 y.view, .int .i64 y.client, .int .i64 y.request, .int .i64 y.dflt, .int .i64 y.closed, .int .i64 y.fuel, .int .i64 y.stack, .slice E1 m1 d1, .slice E2 m2 d2] 100)) (fun _ _ h => h) (fun _ _ _ _ h => h)) (some ⟨w3.heap.size, 0, none⟩) 1 1 (ys := [y]) rfl (by simp) (by omega) rfl (new_sees w3 #[.int .i64 y.view, .int .i64 y.client, .int .i64 y.request, .int .i64 y.dflt, .int .i64 y.closed, .int .i64 y.fuel, .int .i64 y.stack, .slice E1 m1 d1, .slice E2 m2 d2] 100) (HROW.out _ ((Chg.refl (fun _ => False) w3).alloc (.cells #[.int .i64 y.view, .int .i64 y.client, .int .i64 y.request, .int .i64 y.dflt, .int .i64 y.closed, .int .i64 y.fuel, .int .i64 y.stack, .slice E1 m1 d1, .slice E2 m2 d2] 100))) (by rw [HKL.out]; omega) ?_; rw [HKL.out]; intro A4 c4 w4 h1 h2; have G1 := hid h1; have G2 := hid h2; clear h1 h2))
      have HN := hid (show LogAt w B g A n c b (left b at1 bad1) (k + 1) (us ++ [y]) A4 c4 at2 bad2 w4 from ⟨by rw [List.length_append, HKL.out]; rfl, G1.out.mono (fun j h _ => by rcases h with h | h; exact h; exact Nat.le_trans (Nat.le_trans HT.out.chg.size CR.out.size) (Nat.le_trans ((Chg.refl (fun _ => False) w3).alloc _).size h)) (fun k h _ => h), (HT.out.chg.trans CR.out (fun _ h _ => h)).trans (((Chg.refl (fun j => (Value.slice A' k c').ownBlock = some j) w3).alloc _).trans G2.out (fun _ h _ => h)) (fun j hj hl => by have := HT.out.vec.inS j hj; omega), H5.out.chg (((Chg.refl (fun j => (Value.slice A' k c').ownBlock = some j) w3).alloc _).trans G2.out (fun _ h _ => h)) (fun j hj => by have := HT.out.vec.inS j hj; have := H.out.low; have := HG.out; omega) (fun e => HT.out.vec.ne HT.out.rd.blk (by decide) e), by
        rw [rdList_step HT.out.eq, H6.out]
        cases (left b at2 bad2) <;> rfl⟩)
      clear G1 G2 H5 H6 HYE HV3
      go_roundw
      case measure => simp [intOf]; omega
      case rel => first | exact ⟨k + 1, _, _, _, _, _, hlt, by go_num, rfl, HN.out⟩ | ((repeat apply Exists.intro); exact ⟨⟨k + 1, _, _, _, _, _, hlt, by go_num, rfl, HN.out⟩, rfl⟩)
    · have HD1 := hid (show (left b at_ bad).bind (rdSeq 1 rdEntryR) = (left b at' bad').map fun r => (us, r) from by
        rw [rdSeq_of EQ1.out]
        cases bad' with
        | true =>
          rw [left_none, Option.map_none]
          have := HT.out.eq
          rw [left_none, Option.map_none] at this
          exact rdList_stop this hk
        | false =>
          obtain rfl : k = q := by
            have : ¬ k < q := fun h => hgo ⟨h, rfl⟩
            omega
          exact HT.out.eq)
      have hex : ¬ (k : Int) < (q : Int) ∨ ((k : Int) < (q : Int) ∧ bad' = true) := by
        by_cases h1 : k < q
        · right
          refine ⟨by omega, ?_⟩
          cases bad' with
          | true => rfl
          | false => exact absurd ⟨h1, rfl⟩ hgo
        · left; omega
      clear hgo
      have HUL := hid HT.out.len
      rcases hex with hex | ⟨hex, rfl⟩
      all_goals
        go_wp2_with fail
        go_ret
        obtain rfl := HUL.out
        exact ⟨us, A', c', rfl, HT.out.vec.at.mono (fun k hk => by rcases hk with hk | hk <;> exact hk), HT.out.chg, at', _, HT.out.rd, HD1.out⟩
end Go.Proofs.Ytfpjickdkkhndaa.Pa
