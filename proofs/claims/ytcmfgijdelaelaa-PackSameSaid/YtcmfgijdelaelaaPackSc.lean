
/- The contracts of slices.EqualFunc at entries, and of the program's Same. -/

import Derived.Test.YtcmfgijdelaelaaPackSb

import Derived.Shelf.Abstract

namespace Go.Proofs.Ytcmfgijdelaelaa.Pa

set_option linter.unusedVariables false

set_option linter.unusedSimpArgs false

open Go.RowKit Go.Proofs.Ytcmfgijdelaelaa.C

attribute [local go_sem] max2_int min2_int max_two min_two

set_option maxHeartbeats 4000000 in
set_option maxRecDepth 100000 in
theorem equalfunc_any {R R' : Nat → Prop} {xs ys : List Entry} {A A' : Option Addr} {n c n' c' : Nat} {w : World} (h : Ty.At entryK w R A n c xs) (h' : Ty.At entryK w R' A' n' c' ys) :
    Calls Try.prog 45 #[.slice A n c, .slice A' n' c', .func (.func 46) #[] #[]] w fun e w' => e = .returned (.bool (decide (xs = ys))) ∧ Chg (fun _ => False) w w' := by
  have HX := hid h
  have HY := hid h'
  have LX := hid h.1
  have LY := hid h'.1
  have hn : (n : Int) ≤ 9223372036854775807 := by have q1 := h.2.1; have q2 := h.2.2.1; simp [maxLen] at q2; omega
  have eg : ∀ args w, (callFunc 46 args).run Try.prog w = .ok (.enter 46 args) w := Go.Proofs.enters_of Try.func46 (by kernel_rfl) rfl
  clear h h'
  by_cases hnm : n = n'
  case neg =>
    have HN := hid (show ¬ xs = ys from fun e => hnm (by rw [LX.out, LY.out, e]))
    have hnm2 : ¬ (n : Int) = (n' : Int) := by omega
    clear hnm
    go_enter Try.func45, Try.ntmps45
    go_wp2_with fail
    go_ret
    exact ⟨by rw [decide_eq_false HN.out]; rfl, Chg.refl _ _⟩
  subst hnm
  go_enter Try.func45, Try.ntmps45
  go_wp2_with fail
  go_loopw [17] (fun i wr => ∃ k : Nat, k ≤ n ∧ i = .int .i64 k ∧ xs.take k = ys.take k ∧ Chg (fun _ => False) w wr) (fun i _ => n - (intOf i).toNat)
  case atStart => exact ⟨0, Nat.zero_le _, rfl, rfl, Chg.refl _ _⟩
  case round =>
    obtain ⟨k, hk, rfl, he, hC⟩ := hrel
    have HE := hid he
    have HC := hid hC
    clear he
    by_cases hlt : k < n
    · obtain ⟨x, hx⟩ : ∃ x, xs[k]? = some x := ⟨_, List.getElem?_eq_getElem (by have := LX.out; omega)⟩
      obtain ⟨y, hy⟩ : ∃ y, ys[k]? = some y := ⟨_, List.getElem?_eq_getElem (by have := LY.out; omega)⟩
      obtain ⟨a, cs, ha, haR, hK, hcs⟩ := HX.out.get (by decide) hx
      obtain ⟨b, ds, hb, hbR, hK', hds⟩ := HY.out.get (by decide) hy
      obtain ⟨E1, p1, r1, E2, p2, r2, rfl, hrw⟩ := entry_open (id hK)
      obtain ⟨D1, q1, s1, D2, q2, s2, rfl, hrw'⟩ := entry_open (id hK')
      have HRX := hid (hrw.chg hC (fun _ _ h => h))
      have HRY := hid (hrw'.chg hC (fun _ _ h => h))
      subst ha hb
      have hcs2 : ∀ j u, (entryCells x E1 p1 r1 E2 p2 r2)[j]? = some u → wr.cell? (a.add (k * 9 + j)) = some u := fun j u hj => hC.cell (hcs j u hj) (fun h => h)
      have hds2 : ∀ j u, (entryCells y D1 q1 s1 D2 q2 s2)[j]? = some u → wr.cell? (b.add (k * 9 + j)) = some u := fun j u hj => hC.cell (hds j u hj) (fun h => h)
      have x0 := elem_cell0 hcs2 _ rfl
      have y0 := elem_cell0 hds2 _ rfl
      have x1 := elem_cell hcs2 0 _ rfl
      have y1 := elem_cell hds2 0 _ rfl
      have x2 := elem_cell hcs2 1 _ rfl
      have y2 := elem_cell hds2 1 _ rfl
      have x3 := elem_cell hcs2 2 _ rfl
      have y3 := elem_cell hds2 2 _ rfl
      have x4 := elem_cell hcs2 3 _ rfl
      have y4 := elem_cell hds2 3 _ rfl
      have x5 := elem_cell hcs2 4 _ rfl
      have y5 := elem_cell hds2 4 _ rfl
      have x6 := elem_cell hcs2 5 _ rfl
      have y6 := elem_cell hds2 5 _ rfl
      have x7 := elem_cell hcs2 6 _ rfl
      have y7 := elem_cell hds2 6 _ rfl
      have x8 := elem_cell hcs2 7 _ rfl
      have y8 := elem_cell hds2 7 _ rfl
      have TX := hid (show xs.take (k + 1) = xs.take k ++ [x] by rw [List.take_add_one, hx]; rfl)
      have TY := hid (show ys.take (k + 1) = ys.take k ++ [y] by rw [List.take_add_one, hy]; rfl)
      have NE := hid (show x ≠ y → xs ≠ ys from fun h e => h (by subst e; rw [hx] at hy; injection hy))
      clear hcs hds hK hK' hcs2 hds2 hx hy haR hbR hrw hrw' hC
      have hlt2 : (k : Int) < (n : Int) := by omega
      obtain ⟨wB, hwB⟩ : ∃ wB, wB = (wr.alloc (.cells #[.int .i64 x.view, .int .i64 x.client, .int .i64 x.request, .int .i64 x.dflt, .int .i64 x.closed, .int .i64 x.fuel, .int .i64 x.stack, .slice E1 p1 r1, .slice E2 p2 r2] 65)).alloc (.cells #[.int .i64 y.view, .int .i64 y.client, .int .i64 y.request, .int .i64 y.dflt, .int .i64 y.closed, .int .i64 y.fuel, .int .i64 y.stack, .slice D1 q1 s1, .slice D2 q2 s2] 65) := ⟨_, rfl⟩
      have CB := hid (show Chg (fun _ => False) wr wB by rw [hwB]; exact ((Chg.refl _ wr).alloc _).alloc _)
      have HWB := hid hwB
      clear hwB
      have z0 := ((Chg.refl (fun _ => False) wr).alloc (.cells #[.int .i64 x.view, .int .i64 x.client, .int .i64 x.request, .int .i64 x.dflt, .int .i64 x.closed, .int .i64 x.fuel, .int .i64 x.stack, .slice E1 p1 r1, .slice E2 p2 r2] 65)).cell y0 (fun h => h)
      have z1 := ((Chg.refl (fun _ => False) wr).alloc (.cells #[.int .i64 x.view, .int .i64 x.client, .int .i64 x.request, .int .i64 x.dflt, .int .i64 x.closed, .int .i64 x.fuel, .int .i64 x.stack, .slice E1 p1 r1, .slice E2 p2 r2] 65)).cell y1 (fun h => h)
      have z2 := ((Chg.refl (fun _ => False) wr).alloc (.cells #[.int .i64 x.view, .int .i64 x.client, .int .i64 x.request, .int .i64 x.dflt, .int .i64 x.closed, .int .i64 x.fuel, .int .i64 x.stack, .slice E1 p1 r1, .slice E2 p2 r2] 65)).cell y2 (fun h => h)
      have z3 := ((Chg.refl (fun _ => False) wr).alloc (.cells #[.int .i64 x.view, .int .i64 x.client, .int .i64 x.request, .int .i64 x.dflt, .int .i64 x.closed, .int .i64 x.fuel, .int .i64 x.stack, .slice E1 p1 r1, .slice E2 p2 r2] 65)).cell y3 (fun h => h)
      have z4 := ((Chg.refl (fun _ => False) wr).alloc (.cells #[.int .i64 x.view, .int .i64 x.client, .int .i64 x.request, .int .i64 x.dflt, .int .i64 x.closed, .int .i64 x.fuel, .int .i64 x.stack, .slice E1 p1 r1, .slice E2 p2 r2] 65)).cell y4 (fun h => h)
      have z5 := ((Chg.refl (fun _ => False) wr).alloc (.cells #[.int .i64 x.view, .int .i64 x.client, .int .i64 x.request, .int .i64 x.dflt, .int .i64 x.closed, .int .i64 x.fuel, .int .i64 x.stack, .slice E1 p1 r1, .slice E2 p2 r2] 65)).cell y5 (fun h => h)
      have z6 := ((Chg.refl (fun _ => False) wr).alloc (.cells #[.int .i64 x.view, .int .i64 x.client, .int .i64 x.request, .int .i64 x.dflt, .int .i64 x.closed, .int .i64 x.fuel, .int .i64 x.stack, .slice E1 p1 r1, .slice E2 p2 r2] 65)).cell y6 (fun h => h)
      have z7 := ((Chg.refl (fun _ => False) wr).alloc (.cells #[.int .i64 x.view, .int .i64 x.client, .int .i64 x.request, .int .i64 x.dflt, .int .i64 x.closed, .int .i64 x.fuel, .int .i64 x.stack, .slice E1 p1 r1, .slice E2 p2 r2] 65)).cell y7 (fun h => h)
      have z8 := ((Chg.refl (fun _ => False) wr).alloc (.cells #[.int .i64 x.view, .int .i64 x.client, .int .i64 x.request, .int .i64 x.dflt, .int .i64 x.closed, .int .i64 x.fuel, .int .i64 x.stack, .slice E1 p1 r1, .slice E2 p2 r2] 65)).cell y8 (fun h => h)
      go_wp2_with fail
      rw [← HWB.out]
      clear HWB x0 y0 x1 y1 x2 y2 x3 y3 x4 y4 x5 y5 x6 y6 x7 y7 x8 y8 z0 z1 z2 z3 z4 z5 z6 z7 z8
      refine (same_any (e := x) (d := y) (HRX.out.chg CB.out (fun _ _ h => h)) (HRY.out.chg CB.out (fun _ _ h => h))).mono ?_
      rintro e w2 ⟨rfl, h2⟩
      have C2 := hid ((HC.out.trans CB.out (fun _ h _ => h)).trans h2 (fun _ h _ => h))
      clear h2
      cases g : decide (x = y)
      · have HN := hid (NE.out (of_decide_eq_false g))
        clear g
        go_wp2_with fail
        go_ret
        exact ⟨by rw [decide_eq_false HN.out]; rfl, C2.out⟩
      · have HN := hid (show xs.take (k + 1) = ys.take (k + 1) by rw [TX.out, TY.out, HE.out, of_decide_eq_true g])
        clear g
        go_wp2_with fail
        go_roundw
        case measure => simp [intOf]; omega
        case rel => first | exact ⟨k + 1, hlt, by go_num, HN.out, C2.out⟩ | ((repeat apply Exists.intro); exact ⟨⟨k + 1, hlt, by go_num, HN.out, C2.out⟩, rfl⟩)
    · have hkn : ¬ (k : Int) < (n : Int) := by omega
      clear hC eg
      go_wp2_with fail
      go_ret
      have e := HE.out
      rw [List.take_of_length_le (by have := LX.out; omega), List.take_of_length_le (by have := LY.out; omega)] at e
      exact ⟨by rw [decide_eq_true e]; rfl, HC.out⟩

set_option maxHeartbeats 4000000 in
set_option maxRecDepth 100000 in
theorem Same_any {R R' : Nat → Prop} {xs ys : List Entry} {A A' : Option Addr} {n c n' c' : Nat} {w : World} (h : Ty.At entryK w R A n c xs) (h' : Ty.At entryK w R' A' n' c' ys) :
    Calls Try.prog 28 #[.slice A n c, .slice A' n' c'] w fun e w' => e = .returned (.bool (decide (xs = ys))) ∧ Chg (fun _ => False) w w' := by
  have HX := hid h
  have HY := hid h'
  clear h h'
  go_enter Try.func28, Try.ntmps28
  go_wp2_with fail
  refine (equalfunc_any HX.out HY.out).mono ?_
  rintro e w1 ⟨rfl, h1⟩
  have H1 := hid h1
  clear h1
  go_wp2_with fail
  go_ret
  exact ⟨rfl, H1.out⟩
end Go.Proofs.Ytcmfgijdelaelaa.Pa
