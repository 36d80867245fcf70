/- The contracts of class's plain functions: right, Normal, Has, Count, and the document's. -/
import Derived.Test.YtoojifcpjbakgaaClassV
namespace Go.Proofs.Ytoojifcpjbakgaa.Cl
set_option linter.unusedVariables false
set_option linter.unusedSimpArgs false
open Go.RowKit Go.Proofs.Ytoojifcpjbakgaa.C
attribute [local go_sem] max2_int min2_int max_two min_two

/-- A range's cells in a box. -/
theorem box_lo {w : World} {x : Rg} {e : TypeId} : (w.alloc (.cells #[.int .i64 x.lo, .int .i64 x.hi] e)).cell? ⟨w.heap.size, 0, none⟩ = some (.int .i64 x.lo) := by rw [cellAt (blk_new w _)]; rfl
theorem box_hi {w : World} {x : Rg} {e : TypeId} : (w.alloc (.cells #[.int .i64 x.lo, .int .i64 x.hi] e)).cell? ⟨w.heap.size, 1, none⟩ = some (.int .i64 x.hi) := by rw [cellAt (blk_new w _)]; rfl
theorem chg_box (w : World) (c : Obj) : Chg (fun _ => False) w (w.alloc c) := (Chg.refl _ w).alloc _

set_option maxHeartbeats 1000000 in
theorem right_any (x : Rg) (w : World) :
    Calls Try.prog 29 #[.agg #[.int .i64 x.lo, .int .i64 x.hi]] w fun e w' => e = .returned (.bool x.right) ∧ Chg (fun _ => False) w w' := by
  obtain ⟨lo, hi⟩ := x
  have E := hid (show Rg.right ⟨lo, hi⟩ = decide (0 ≤ lo ∧ lo ≤ hi ∧ hi ≤ 1114367) from rfl)
  dsimp only
  by_cases h1 : 0 ≤ lo
  · by_cases h2 : lo ≤ hi
    · by_cases h3 : hi ≤ 1114367
      · go_enter Try.func29, Try.ntmps29
        go_wp2
        go_ret
        exact ⟨by rw [E.out, decide_eq_true (by omega)]; rfl, chg_box _ _⟩
      · go_enter Try.func29, Try.ntmps29
        go_wp2
        go_ret
        exact ⟨by rw [E.out, decide_eq_false (by omega)]; rfl, chg_box _ _⟩
    · go_enter Try.func29, Try.ntmps29
      go_wp2
      go_ret
      exact ⟨by rw [E.out, decide_eq_false (by omega)]; rfl, chg_box _ _⟩
  · go_enter Try.func29, Try.ntmps29
    go_wp2
    go_ret
    exact ⟨by rw [E.out, decide_eq_false (by omega)]; rfl, chg_box _ _⟩
set_option maxHeartbeats 1000000 in
theorem refright_any (x : Rg) (w : World) :
    Calls Try.prog 14 #[.agg #[.int .i64 x.lo, .int .i64 x.hi]] w fun e w' => e = .returned (.bool x.right) ∧ Chg (fun _ => False) w w' := by
  obtain ⟨lo, hi⟩ := x
  have E := hid (show Rg.right ⟨lo, hi⟩ = decide (0 ≤ lo ∧ lo ≤ hi ∧ hi ≤ 1114367) from rfl)
  dsimp only
  by_cases h1 : 0 ≤ lo
  · by_cases h2 : lo ≤ hi
    · by_cases h3 : hi ≤ 1114367
      · go_enter Try.func14, Try.ntmps14
        go_wp2
        go_ret
        exact ⟨by rw [E.out, decide_eq_true (by omega)]; rfl, chg_box _ _⟩
      · go_enter Try.func14, Try.ntmps14
        go_wp2
        go_ret
        exact ⟨by rw [E.out, decide_eq_false (by omega)]; rfl, chg_box _ _⟩
    · go_enter Try.func14, Try.ntmps14
      go_wp2
      go_ret
      exact ⟨by rw [E.out, decide_eq_false (by omega)]; rfl, chg_box _ _⟩
  · go_enter Try.func14, Try.ntmps14
    go_wp2
    go_ret
    exact ⟨by rw [E.out, decide_eq_false (by omega)]; rfl, chg_box _ _⟩
set_option maxHeartbeats 1000000 in
theorem make1_any (x : Rg) (w : World) :
    Calls Try.prog 28 #[.agg #[.int .i64 x.lo, .int .i64 x.hi]] w fun e w' => e = .returned (.bool (!x.right)) ∧ Chg (fun _ => False) w w' := by
  go_enter Try.func28, Try.ntmps28
  go_wp2_with fail
  refine (right_any x _).mono ?_
  rintro e w2 ⟨rfl, h⟩
  have H := hid h
  clear h
  go_wp2_with fail
  go_ret
  exact ⟨rfl, (chg_box _ _).trans H.out (fun _ h _ => h)⟩
set_option maxHeartbeats 1000000 in
theorem has1_any (x : Rg) (ask : Int) (bx : Nat) (w : World) (hb : w.cell? ⟨bx, 0, none⟩ = some (.int .i64 ask)) :
    Calls Try.prog 32 #[.agg #[.int .i64 x.lo, .int .i64 x.hi], .pointer (some ⟨bx, 0, none⟩)] w fun e w' => e = .returned (.bool (x.has ask)) ∧ Chg (fun _ => False) w w' := by
  obtain ⟨lo, hi⟩ := x
  have E := hid (show Rg.has ⟨lo, hi⟩ ask = decide (lo ≤ ask ∧ ask ≤ hi) from rfl)
  dsimp only
  have hlt := World.block_lt_of_cell? w _ hb
  have hne : bx ≠ w.heap.size := Nat.ne_of_lt hlt
  by_cases h1 : lo ≤ ask
  · by_cases h2 : ask ≤ hi
    · go_enter Try.func32, Try.ntmps32
      go_wp2
      go_ret
      exact ⟨by rw [E.out, decide_eq_true (by omega)]; rfl, chg_box _ _⟩
    · go_enter Try.func32, Try.ntmps32
      go_wp2
      go_ret
      exact ⟨by rw [E.out, decide_eq_false (by omega)]; rfl, chg_box _ _⟩
  · go_enter Try.func32, Try.ntmps32
    go_wp2
    go_ret
    exact ⟨by rw [E.out, decide_eq_false (by omega)]; rfl, chg_box _ _⟩

/-! ### slices.IndexFunc, slices.ContainsFunc -/
/-- A function that is asked about ranges, and changes nothing of elder memory. -/
def AskRg (fn : Nat) (lb : Array Value) (p : Rg → Bool) (w : World) : Prop :=
  ∀ x wx, Chg (fun _ => False) w wx → Calls Try.prog fn (#[.agg #[.int .i64 x.lo, .int .i64 x.hi]] ++ lb) wx fun e w' => e = .returned (.bool (p x)) ∧ Chg (fun _ => False) wx w'
set_option maxHeartbeats 2000000 in
theorem index36_any {fn : Nat} {lb : Array Value} {p : Rg → Bool} {S : Nat → Prop} {xs : List Rg} {w : World} {A : Option Addr} {n c : Nat} (eg : ∀ args w, (callFunc fn args).run Try.prog w = .ok (.enter fn args) w) (hC : AskRg fn lb p w) (hv : Ty.At rgK w S A n c xs) (hok : n ≤ 1000000) :
    Calls Try.prog 36 #[.slice A n c, .func (.func fn) #[] lb] w fun e w' => (∃ i : Int, e = .returned (.int .i64 i) ∧ decide (i ≥ 0) = xs.any p) ∧ Chg (fun _ => False) w w' := by
  obtain rfl := hv.1
  have HC := hid hC
  have HV := hid hv
  have hl : (xs.length : Int) ≤ 1000000 := by omega
  clear hC hv
  go_enter Try.func36, Try.ntmps36
  go_wp2_with fail
  go_loopw [8] (fun i wr => ∃ k : Nat, k ≤ xs.length ∧ i = .int .i64 k ∧ (∀ y ∈ xs.take k, p y = false) ∧ Chg (fun _ => False) w wr) (fun i _ => xs.length - (intOf i).toNat)
  case atStart => exact ⟨0, Nat.zero_le _, rfl, by simp, Chg.refl _ _⟩
  case round =>
    obtain ⟨k, hk, rfl, hno, hA⟩ := hrel
    have HNO := hid hno
    have HA := hid hA
    clear hno hA
    by_cases hlt : k < xs.length
    · obtain ⟨a, rfl, ha, hwf, x0, x1⟩ := rg_at (HV.out.chg HA.out (fun _ _ h => h)) (List.getElem?_eq_getElem hlt)
      have HTK := hid (show xs.take (k + 1) = xs.take k ++ [xs[k]] from List.take_succ_eq_append_getElem hlt)
      have HGE := hid (List.getElem_mem hlt)
      generalize xs[k] = x at x0 x1 HTK HGE hwf
      clear ha hwf
      go_wp2_with fail
      refine (HC.out x _ HA.out).mono ?_
      rintro e w3 ⟨rfl, h3⟩
      have HA3 := hid (HA.out.trans h3 (fun _ h _ => h))
      clear h3
      cases hp : p x
      · have HN3 := hid (show ∀ y ∈ xs.take (k + 1), p y = false from fun y hy => by
          rw [HTK.out] at hy
          rcases List.mem_append.1 hy with hy | hy
          · exact HNO.out y hy
          · rw [List.mem_singleton.1 hy]; exact hp)
        clear hp
        go_wp2_with fail
        go_roundw
        case measure => simp [intOf]; omega
        case rel => first | exact ⟨k + 1, by omega, by go_num, HN3.out, HA3.out⟩ | ((repeat apply Exists.intro); exact ⟨⟨k + 1, by omega, by go_num, HN3.out, HA3.out⟩, rfl⟩)
      · have HP := hid hp
        clear hp
        go_wp2_with fail
        go_ret
        exact ⟨⟨_, rfl, by rw [show xs.any p = true from List.any_eq_true.2 ⟨x, HGE.out, HP.out⟩]; simp⟩, HA3.out⟩
    · obtain rfl : k = xs.length := by omega
      go_wp2_with fail
      go_ret
      have e : xs.take xs.length = xs := List.take_length
      exact ⟨⟨_, rfl, by rw [show xs.any p = false from by have q := HNO.out; rw [e] at q; rw [List.any_eq_false]; intro y hy; rw [q y hy]; simp]; rfl⟩, HA.out⟩
set_option maxHeartbeats 2000000 in
theorem index41_any {fn : Nat} {lb : Array Value} {p : Rg → Bool} {S : Nat → Prop} {xs : List Rg} {w : World} {A : Option Addr} {n c : Nat} (eg : ∀ args w, (callFunc fn args).run Try.prog w = .ok (.enter fn args) w) (hC : AskRg fn lb p w) (hv : Ty.At rgK w S A n c xs) (hok : n ≤ 1000000) :
    Calls Try.prog 41 #[.slice A n c, .func (.func fn) #[] lb] w fun e w' => (∃ i : Int, e = .returned (.int .i64 i) ∧ decide (i ≥ 0) = xs.any p) ∧ Chg (fun _ => False) w w' := by
  obtain rfl := hv.1
  have HC := hid hC
  have HV := hid hv
  have hl : (xs.length : Int) ≤ 1000000 := by omega
  clear hC hv
  go_enter Try.func41, Try.ntmps41
  go_wp2_with fail
  go_loopw [8] (fun i wr => ∃ k : Nat, k ≤ xs.length ∧ i = .int .i64 k ∧ (∀ y ∈ xs.take k, p y = false) ∧ Chg (fun _ => False) w wr) (fun i _ => xs.length - (intOf i).toNat)
  case atStart => exact ⟨0, Nat.zero_le _, rfl, by simp, Chg.refl _ _⟩
  case round =>
    obtain ⟨k, hk, rfl, hno, hA⟩ := hrel
    have HNO := hid hno
    have HA := hid hA
    clear hno hA
    by_cases hlt : k < xs.length
    · obtain ⟨a, rfl, ha, hwf, x0, x1⟩ := rg_at (HV.out.chg HA.out (fun _ _ h => h)) (List.getElem?_eq_getElem hlt)
      have HTK := hid (show xs.take (k + 1) = xs.take k ++ [xs[k]] from List.take_succ_eq_append_getElem hlt)
      have HGE := hid (List.getElem_mem hlt)
      generalize xs[k] = x at x0 x1 HTK HGE hwf
      clear ha hwf
      go_wp2_with fail
      refine (HC.out x _ HA.out).mono ?_
      rintro e w3 ⟨rfl, h3⟩
      have HA3 := hid (HA.out.trans h3 (fun _ h _ => h))
      clear h3
      cases hp : p x
      · have HN3 := hid (show ∀ y ∈ xs.take (k + 1), p y = false from fun y hy => by
          rw [HTK.out] at hy
          rcases List.mem_append.1 hy with hy | hy
          · exact HNO.out y hy
          · rw [List.mem_singleton.1 hy]; exact hp)
        clear hp
        go_wp2_with fail
        go_roundw
        case measure => simp [intOf]; omega
        case rel => first | exact ⟨k + 1, by omega, by go_num, HN3.out, HA3.out⟩ | ((repeat apply Exists.intro); exact ⟨⟨k + 1, by omega, by go_num, HN3.out, HA3.out⟩, rfl⟩)
      · have HP := hid hp
        clear hp
        go_wp2_with fail
        go_ret
        exact ⟨⟨_, rfl, by rw [show xs.any p = true from List.any_eq_true.2 ⟨x, HGE.out, HP.out⟩]; simp⟩, HA3.out⟩
    · obtain rfl : k = xs.length := by omega
      go_wp2_with fail
      go_ret
      have e : xs.take xs.length = xs := List.take_length
      exact ⟨⟨_, rfl, by rw [show xs.any p = false from by have q := HNO.out; rw [e] at q; rw [List.any_eq_false]; intro y hy; rw [q y hy]; simp]; rfl⟩, HA.out⟩
set_option maxHeartbeats 1000000 in
theorem contains27_any {fn : Nat} {lb : Array Value} {p : Rg → Bool} {S : Nat → Prop} {xs : List Rg} {w : World} {A : Option Addr} {n c : Nat} (eg : ∀ args w, (callFunc fn args).run Try.prog w = .ok (.enter fn args) w) (hC : AskRg fn lb p w) (hv : Ty.At rgK w S A n c xs) (hok : n ≤ 1000000) :
    Calls Try.prog 27 #[.slice A n c, .func (.func fn) #[] lb] w fun e w' => e = .returned (.bool (xs.any p)) ∧ Chg (fun _ => False) w w' := by
  have H := hid (index36_any eg hC hv hok)
  clear hC hv
  go_enter Try.func27, Try.ntmps27
  go_wp2_with fail
  refine H.out.mono ?_
  rintro e w2 ⟨⟨i, rfl, h1⟩, h2⟩
  have H1 := hid h1
  have H2 := hid h2
  clear h1 h2
  by_cases hi : 0 ≤ i
  · go_wp2_with fail
    go_ret
    exact ⟨by rw [← H1.out]; simp [hi], H2.out⟩
  · go_wp2_with fail
    go_ret
    exact ⟨by rw [← H1.out]; simp [hi], H2.out⟩
set_option maxHeartbeats 1000000 in
theorem contains31_any {fn : Nat} {lb : Array Value} {p : Rg → Bool} {S : Nat → Prop} {xs : List Rg} {w : World} {A : Option Addr} {n c : Nat} (eg : ∀ args w, (callFunc fn args).run Try.prog w = .ok (.enter fn args) w) (hC : AskRg fn lb p w) (hv : Ty.At rgK w S A n c xs) (hok : n ≤ 1000000) :
    Calls Try.prog 31 #[.slice A n c, .func (.func fn) #[] lb] w fun e w' => e = .returned (.bool (xs.any p)) ∧ Chg (fun _ => False) w w' := by
  have H := hid (index41_any eg hC hv hok)
  clear hC hv
  go_enter Try.func31, Try.ntmps31
  go_wp2_with fail
  refine H.out.mono ?_
  rintro e w2 ⟨⟨i, rfl, h1⟩, h2⟩
  have H1 := hid h1
  have H2 := hid h2
  clear h1 h2
  by_cases hi : 0 ≤ i
  · go_wp2_with fail
    go_ret
    exact ⟨by rw [← H1.out]; simp [hi], H2.out⟩
  · go_wp2_with fail
    go_ret
    exact ⟨by rw [← H1.out]; simp [hi], H2.out⟩
theorem askhas {ask : Int} {bx : Nat} {w : World} (hb : w.cell? ⟨bx, 0, none⟩ = some (.int .i64 ask)) : AskRg 32 #[.pointer (some ⟨bx, 0, none⟩)] (fun x => x.has ask) w := fun x wx hx => by
  rw [show (#[.agg #[.int .i64 x.lo, .int .i64 x.hi]] ++ #[.pointer (some ⟨bx, 0, none⟩)] : Array Value) = #[.agg #[.int .i64 x.lo, .int .i64 x.hi], .pointer (some ⟨bx, 0, none⟩)] from by simp]
  exact has1_any x ask _ wx (hx.cell hb (fun h => h))
theorem askmake {w : World} : AskRg 28 #[] (fun x => !x.right) w := fun x wx hx => by
  rw [show (#[.agg #[.int .i64 x.lo, .int .i64 x.hi]] ++ #[] : Array Value) = #[.agg #[.int .i64 x.lo, .int .i64 x.hi]] from by simp]
  exact make1_any x wx
set_option maxHeartbeats 1000000 in
theorem has_any {S : Nat → Prop} {xs : List Rg} {w : World} {A : Option Addr} {n c : Nat} (ask : Int) (hv : Ty.At rgK w S A n c xs) (hok : n ≤ 1000000) :
    Calls Try.prog 17 #[.slice A n c, .int .i64 ask] w fun e w' => e = .returned (.bool (has xs ask)) ∧ Chg (fun _ => False) w w' := by
  have HV := hid hv
  clear hv
  obtain ⟨wb, hwb⟩ : ∃ wb, wb = w.alloc (.cells #[.int .i64 ask] 3) := ⟨_, rfl⟩
  have CB := hid (show Chg (fun _ => False) w wb by rw [hwb]; exact chg_box _ _)
  have BB := hid (show wb.cell? ⟨w.heap.size, 0, none⟩ = some (.int .i64 ask) by rw [hwb, cellAt (blk_new w _)]; rfl)
  go_enter Try.func17, Try.ntmps17
  go_wp2_with fail
  rw [← hwb]
  clear hwb
  refine (contains31_any (p := fun x => x.has ask) (Go.Proofs.enters_of Try.func32 (by kernel_rfl) rfl) (askhas (w := wb) BB.out) (HV.out.chg CB.out (fun _ _ h => h)) hok).mono ?_
  rintro e w2 ⟨rfl, h2⟩
  have H2 := hid (CB.out.trans h2 (fun _ h _ => h))
  clear h2
  go_wp2_with fail
  go_ret
  exact ⟨rfl, H2.out⟩
end Go.Proofs.Ytoojifcpjbakgaa.Cl
