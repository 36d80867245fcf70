
/- The contracts of slices.Equal at rules and numbers. -/

import Derived.Test.YtcmfgijdelaelaaPackK

import Derived.Laws.StructEq

import Derived.Shelf.Abstract

namespace Go.Proofs.Ytcmfgijdelaelaa.Pa

set_option linter.unusedVariables false

set_option linter.unusedSimpArgs false

open Go.RowKit Go.Proofs.Ytcmfgijdelaelaa.C

attribute [local go_sem] max2_int min2_int max_two min_two

theorem bytes_eq {s t : ByteArray} : s.toList = t.toList ↔ s = t := by
  constructor
  · intro h
    rw [ByteArray.toList_eq, ByteArray.toList_eq] at h
    cases s
    cases t
    simp only [Array.toList_inj] at h
    rw [h]
  · rintro rfl
    rfl
theorem rule_ext {x y : Rule} : x = y ↔ x.id = y.id ∧ x.pri = y.pri ∧ x.act = y.act ∧ x.scope = y.scope ∧ x.pat = y.pat := by
  cases x
  cases y
  simp
theorem rule_neq (x y : Rule) (w : World) : (binOp .neq 72 (.agg #[.int .i64 x.id, .int .i64 x.pri, .int .i64 x.act, .int .i64 x.scope, .string x.pat]) (.agg #[.int .i64 y.id, .int .i64 y.pri, .int .i64 y.act, .int .i64 y.scope, .string y.pat])).run Try.prog w = .ok (.bool (!(decide (x = y)))) w := by
  simp [go_sem, rule_ext, bytes_eq]
  by_cases h1 : x.id = y.id <;> by_cases h2 : x.pri = y.pri <;> by_cases h3 : x.act = y.act <;> by_cases h4 : x.scope = y.scope <;> by_cases h5 : x.pat = y.pat <;> simp [h1, h2, h3, h4, h5]
theorem refrule_neq (x y : Rule) (w : World) : (binOp .neq 100 (.agg #[.int .i64 x.id, .int .i64 x.pri, .int .i64 x.act, .int .i64 x.scope, .string x.pat]) (.agg #[.int .i64 y.id, .int .i64 y.pri, .int .i64 y.act, .int .i64 y.scope, .string y.pat])).run Try.prog w = .ok (.bool (!(decide (x = y)))) w := by
  simp [go_sem, rule_ext, bytes_eq]
  by_cases h1 : x.id = y.id <;> by_cases h2 : x.pri = y.pri <;> by_cases h3 : x.act = y.act <;> by_cases h4 : x.scope = y.scope <;> by_cases h5 : x.pat = y.pat <;> simp [h1, h2, h3, h4, h5]

set_option maxHeartbeats 4000000 in
set_option maxRecDepth 100000 in
theorem ruleseq_any {R R' : Nat → Prop} {xs ys : List (Rule)} {A A' : Option Addr} {n c n' c' : Nat} {w : World} (h : Ty.At ruleK w R A n c xs) (h' : Ty.At ruleK w R' A' n' c' ys) :
    Calls Try.prog 63 #[.slice A n c, .slice A' n' c'] w fun e w' => e = .returned (.bool (decide (xs = ys))) ∧ Chg (fun _ => False) w w' := by
  have HX := hid h
  have HY := hid h'
  have LX := hid h.1
  have LY := hid h'.1
  have hn : (n : Int) ≤ 9223372036854775807 := by have q1 := h.2.1; have q2 := h.2.2.1; simp [maxLen] at q2; omega
  clear h h'
  by_cases hnm : n = n'
  case neg =>
    have HN := hid (show ¬ xs = ys from fun e => hnm (by rw [LX.out, LY.out, e]))
    have hnm2 : ¬ (n : Int) = (n' : Int) := by omega
    clear hnm
    go_enter Try.func63, Try.ntmps63
    go_wp2_with fail
    go_ret
    exact ⟨by rw [decide_eq_false HN.out]; rfl, Chg.refl _ _⟩
  subst hnm
  go_enter Try.func63, Try.ntmps63
  go_wp2_with fail
  go_loopw [13] (fun i wr => ∃ k : Nat, k ≤ n ∧ i = .int .i64 k ∧ xs.take k = ys.take k ∧ Chg (fun _ => False) w wr) (fun i _ => n - (intOf i).toNat)
  case atStart => exact ⟨0, Nat.zero_le _, rfl, rfl, Chg.refl _ _⟩
  case round =>
    obtain ⟨k, hk, rfl, he, hC⟩ := hrel
    have HE := hid he
    have HC := hid hC
    clear he
    by_cases hlt : k < n
    · obtain ⟨x, hx⟩ : ∃ x, xs[k]? = some x := ⟨_, List.getElem?_eq_getElem (by have := LX.out; omega)⟩
      obtain ⟨y, hy⟩ : ∃ y, ys[k]? = some y := ⟨_, List.getElem?_eq_getElem (by have := LY.out; omega)⟩
      obtain ⟨a, cs, ha, haR, hK, hcs⟩ := HX.out.get (by decide) hx
      obtain ⟨b, ds, hb, hbR, hK', hds⟩ := HY.out.get (by decide) hy
      obtain ⟨rfl, hrw⟩ := rule_open hK
      obtain ⟨rfl, hrw'⟩ := rule_open hK'
      clear hrw hrw'
      subst ha hb
      have hcs2 : ∀ j u, (ruleCells x)[j]? = some u → wr.cell? (a.add (k * 5 + j)) = some u := fun j u hj => hC.cell (hcs j u hj) (fun h => h)
      have hds2 : ∀ j u, (ruleCells y)[j]? = some u → wr.cell? (b.add (k * 5 + j)) = some u := fun j u hj => hC.cell (hds j u hj) (fun h => h)
      have x0 := elem_cell0 hcs2 _ rfl
      have y0 := elem_cell0 hds2 _ rfl
      have x1 := elem_cell hcs2 0 _ rfl
      have y1 := elem_cell hds2 0 _ rfl
      have x2 := elem_cell hcs2 1 _ rfl
      have y2 := elem_cell hds2 1 _ rfl
      have x3 := elem_cell hcs2 2 _ rfl
      have y3 := elem_cell hds2 2 _ rfl
      have x4 := elem_cell hcs2 3 _ rfl
      have y4 := elem_cell hds2 3 _ rfl
      have TX := hid (show xs.take (k + 1) = xs.take k ++ [x] by rw [List.take_add_one, hx]; rfl)
      have TY := hid (show ys.take (k + 1) = ys.take k ++ [y] by rw [List.take_add_one, hy]; rfl)
      have NE := hid (show x ≠ y → xs ≠ ys from fun h e => h (by subst e; rw [hx] at hy; injection hy))
      have e1 := fun w => rule_neq x y w
      clear hcs hds hK hK' hcs2 hds2 hx hy haR hbR hC
      have hlt2 : (k : Int) < (n : Int) := by omega
      go_wp2_with fail
      go_quiet (fail)
      clear x0 y0 x1 x2 x3 x4 y1 y2 y3 y4 e1
      by_cases hxy : x = y
      · have HN := hid (show xs.take (k + 1) = ys.take (k + 1) by rw [TX.out, TY.out, HE.out, hxy])
        have C2 := hid (HC.out.drewN nq)
        have HD := hid (trivial)
        rw [decide_eq_true hxy]
        clear hxy
        go_wp2_with fail
        go_roundw
        case measure => simp [intOf]; omega
        case rel => first | exact ⟨k + 1, hlt, by go_num, HN.out, C2.out⟩ | ((repeat apply Exists.intro); exact ⟨⟨k + 1, hlt, by go_num, HN.out, C2.out⟩, rfl⟩)
      · have HN := hid (NE.out hxy)
        have C2 := hid (HC.out.drewN nq)
        rw [decide_eq_false hxy]
        clear hxy
        go_wp2_with fail
        go_ret
        exact ⟨by rw [decide_eq_false HN.out]; rfl, C2.out⟩
    · have hkn : ¬ (k : Int) < (n : Int) := by omega
      clear hC
      go_wp2_with fail
      go_ret
      have e := HE.out
      rw [List.take_of_length_le (by have := LX.out; omega), List.take_of_length_le (by have := LY.out; omega)] at e
      exact ⟨by rw [decide_eq_true e]; rfl, HC.out⟩

set_option maxHeartbeats 4000000 in
set_option maxRecDepth 100000 in
theorem numseq_any {R R' : Nat → Prop} {xs ys : List (Int)} {A A' : Option Addr} {n c n' c' : Nat} {w : World} (h : Ty.At (Ty.int .i64) w R A n c xs) (h' : Ty.At (Ty.int .i64) w R' A' n' c' ys) :
    Calls Try.prog 64 #[.slice A n c, .slice A' n' c'] w fun e w' => e = .returned (.bool (decide (xs = ys))) ∧ Chg (fun _ => False) w w' := by
  have HX := hid h
  have HY := hid h'
  have LX := hid h.1
  have LY := hid h'.1
  have hn : (n : Int) ≤ 9223372036854775807 := by have q1 := h.2.1; have q2 := h.2.2.1; simp [maxLen] at q2; omega
  clear h h'
  by_cases hnm : n = n'
  case neg =>
    have HN := hid (show ¬ xs = ys from fun e => hnm (by rw [LX.out, LY.out, e]))
    have hnm2 : ¬ (n : Int) = (n' : Int) := by omega
    clear hnm
    go_enter Try.func64, Try.ntmps64
    go_wp2_with fail
    go_ret
    exact ⟨by rw [decide_eq_false HN.out]; rfl, Chg.refl _ _⟩
  subst hnm
  go_enter Try.func64, Try.ntmps64
  go_wp2_with fail
  go_loopw [13] (fun i wr => ∃ k : Nat, k ≤ n ∧ i = .int .i64 k ∧ xs.take k = ys.take k ∧ Chg (fun _ => False) w wr) (fun i _ => n - (intOf i).toNat)
  case atStart => exact ⟨0, Nat.zero_le _, rfl, rfl, Chg.refl _ _⟩
  case round =>
    obtain ⟨k, hk, rfl, he, hC⟩ := hrel
    have HE := hid he
    have HC := hid hC
    clear he
    by_cases hlt : k < n
    · obtain ⟨x, hx⟩ : ∃ x, xs[k]? = some x := ⟨_, List.getElem?_eq_getElem (by have := LX.out; omega)⟩
      obtain ⟨y, hy⟩ : ∃ y, ys[k]? = some y := ⟨_, List.getElem?_eq_getElem (by have := LY.out; omega)⟩
      obtain ⟨a, cs, ha, haR, hK, hcs⟩ := HX.out.get (by decide) hx
      obtain ⟨b, ds, hb, hbR, hK', hds⟩ := HY.out.get (by decide) hy
      obtain ⟨rfl, hrw⟩ := (id hK)
      obtain ⟨rfl, hrw'⟩ := (id hK')
      clear hrw hrw'
      subst ha hb
      have hcs2 : ∀ j u, ([Value.int .i64 x])[j]? = some u → wr.cell? (a.add (k * 1 + j)) = some u := fun j u hj => hC.cell (hcs j u hj) (fun h => h)
      have hds2 : ∀ j u, ([Value.int .i64 y])[j]? = some u → wr.cell? (b.add (k * 1 + j)) = some u := fun j u hj => hC.cell (hds j u hj) (fun h => h)
      have x0 := elem_cell0 hcs2 _ rfl
      have y0 := elem_cell0 hds2 _ rfl
      rw [Nat.mul_one] at x0 y0
      have TX := hid (show xs.take (k + 1) = xs.take k ++ [x] by rw [List.take_add_one, hx]; rfl)
      have TY := hid (show ys.take (k + 1) = ys.take k ++ [y] by rw [List.take_add_one, hy]; rfl)
      have NE := hid (show x ≠ y → xs ≠ ys from fun h e => h (by subst e; rw [hx] at hy; injection hy))

      clear hcs hds hK hK' hcs2 hds2 hx hy haR hbR hC
      have hlt2 : (k : Int) < (n : Int) := by omega
      go_wp2_with fail
      go_quiet (fail)
      clear x0 y0
      by_cases hxy : x = y
      · have HN := hid (show xs.take (k + 1) = ys.take (k + 1) by rw [TX.out, TY.out, HE.out, hxy])
        have C2 := hid (HC.out.drewN nq)
        have HD := hid (trivial)
        obtain rfl := hxy; have hxy := trivial; have hb : (x != x) = false := by simp
        clear hxy
        go_wp2_with fail
        go_roundw
        case measure => simp [intOf]; omega
        case rel => first | exact ⟨k + 1, hlt, by go_num, HN.out, C2.out⟩ | ((repeat apply Exists.intro); exact ⟨⟨k + 1, hlt, by go_num, HN.out, C2.out⟩, rfl⟩)
      · have HN := hid (NE.out hxy)
        have C2 := hid (HC.out.drewN nq)
        have hb : (x != y) = true := by simpa using hxy
        clear hxy
        go_wp2_with fail
        go_ret
        exact ⟨by rw [decide_eq_false HN.out]; rfl, C2.out⟩
    · have hkn : ¬ (k : Int) < (n : Int) := by omega
      clear hC
      go_wp2_with fail
      go_ret
      have e := HE.out
      rw [List.take_of_length_le (by have := LX.out; omega), List.take_of_length_le (by have := LY.out; omega)] at e
      exact ⟨by rw [decide_eq_true e]; rfl, HC.out⟩
end Go.Proofs.Ytcmfgijdelaelaa.Pa
