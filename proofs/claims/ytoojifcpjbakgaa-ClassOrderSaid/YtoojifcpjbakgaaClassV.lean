/- slices.Values and slices.Collect at ranges: the contracts. -/
import Derived.Test.YtoojifcpjbakgaaVec
import Derived.Test.YtoojifcpjbakgaaClassM
import Derived.RangeFuncNested
import Derived.RangeFuncBox
import Derived.RangeFuncBound
import Derived.RangeFuncCalls
import Derived.RangeFuncLeaves
import Derived.Shelf.Abstract
import Derived.Shelf.RegionOpen
import Derived.WalkKit
import Derived.OwnWalkIn
import Derived.TacticsInMore
import Derived.LoopNIn
import Derived.LoopIn
import Derived.Maps.AppendAt
namespace Go.Proofs.Ytoojifcpjbakgaa.Cl
set_option linter.unusedVariables false
set_option linter.unusedSimpArgs false
open Go.RowKit Go.Proofs.Ytoojifcpjbakgaa.C Go.Shelf
attribute [local go_sem] Oper.semAt_some

def rgK : Ty Rg := Ty.iso (Ty.pair (Ty.int .i64) (Ty.int .i64)) (fun r => (r.lo, r.hi))
theorem rgK_sz : rgK.sz = 2 := rfl
def Rg.wf (r : Rg) : Prop := (Lit.int .i64 r.lo).wf = true ∧ (Lit.int .i64 r.hi).wf = true
theorem rg_open {w : World} {S : Nat → Prop} {x : Rg} {cs : List Value} (h : rgK.K w S x cs) : cs = [.int .i64 x.lo, .int .i64 x.hi] ∧ x.wf := by
  obtain ⟨_, _, rfl, ⟨rfl, wf1⟩, rfl, wf2⟩ := h
  exact ⟨rfl, wf1, wf2⟩
theorem rg_shut {w : World} {S : Nat → Prop} {x : Rg} (h : x.wf) : rgK.K w S x [.int .i64 x.lo, .int .i64 x.hi] := ⟨[_], [_], rfl, ⟨rfl, h.1⟩, rfl, h.2⟩
/-- One range of a slice that is read. -/
theorem rg_at {w : World} {S : Nat → Prop} {A : Option Addr} {n c : Nat} {xs : List Rg} (h : Ty.At rgK w S A n c xs) {i : Nat} {x : Rg} (hx : xs[i]? = some x) :
    ∃ a, A = some a ∧ S a.block ∧ x.wf ∧ w.cell? (a.add (i * 2)) = some (.int .i64 x.lo) ∧ w.cell? ⟨(a.add (i * 2)).block, (a.add (i * 2)).off + 1, none⟩ = some (.int .i64 x.hi) := by
  obtain ⟨a, cs, ha, hS, hK, hc⟩ := h.get (by decide) hx
  obtain ⟨rfl, hw⟩ := rg_open hK
  refine ⟨a, ha, hS, hw, hc 0 _ rfl, ?_⟩
  have e : a.add (i * 2 + 1) = ⟨(a.add (i * 2)).block, (a.add (i * 2)).off + 1, none⟩ := by
    rw [← C.add_add]
    generalize a.add (i * 2) = q
    unfold Addr.add
    simp
  rw [← e]
  exact hc 1 _ rfl

set_option maxRecDepth 100000 in
set_option maxHeartbeats 4000000 in
theorem values1_in (F : Fence) (n : Nat) (h45 : F.fn 45) (hro : F.round = none) (hn : 1 ≤ n) (l Bs n₀ B0 : Nat) (A : Option Addr) (len cap : Nat) (zs : List Rg) (hlen : len ≤ 1000000) (J Jx : List Rg → World → Prop) (hJ : AbidesFrom B0 J)
    (hY : ∀ pre x W, J pre W → pre.length < len → YieldAt F (n - 1) Try.prog l #[.agg #[.int .i64 x.lo, .int .i64 x.hi]] W fun e W' =>
      (e = .returned (.bool true) ∧ J (pre ++ [x]) W' ∧ Below n₀ W W') ∨ (e = .returned (.bool false) ∧ Jx (pre ++ [x]) W'))
    (W : World) (hBs : W.cell? ⟨Bs, 0, none⟩ = some (.slice A len cap)) (hc : Ty.At rgK W (fun k => k < n₀) A len cap zs) (h0 : J [] W) (hn0 : n₀ ≤ W.heap.size) :
    CallsIn F n Try.prog 45 #[.func (.yield l) #[] #[], .pointer (some ⟨Bs, 0, none⟩)] W fun e W' => (∃ v, e = .returned v) ∧
      ((∃ ys, ys = zs ∧ J ys W') ∨ (∃ pre, pre <+: zs ∧ Jx pre W')) := by
  have hzl := hc.1
  have HC := hid hc
  clear hc
  refine callsIn_of_wp Try.func45 rfl h45 ?_ hro
  simp only [Try.ntmps45, List.size_toArray, List.length_cons, List.length_nil, Nat.reduceAdd, Nat.reduceSub, Array.replicate_succ, Array.replicate_zero, List.push_toArray, List.append_toArray, List.nil_append, List.cons_append]
  gi_wp2
  gi_loopw [7] (fun i wr => ∃ k : Nat, k ≤ len ∧ i = .int .i64 k ∧ J (zs.take k) wr ∧ Below n₀ W wr)
    (fun i _ => len - (intOf i).toNat)
  case atStart => exact ⟨0, Nat.zero_le _, rfl, h0, Below.refl _ _⟩
  case round =>
    obtain ⟨k, hk, rfl, hJs, hnx⟩ := hrel
    by_cases hlt : k < len
    · obtain ⟨x, hx⟩ : ∃ x, zs[k]? = some x := ⟨_, List.getElem?_eq_getElem (by omega)⟩
      obtain ⟨a, rfl, ha, hwf, x0, x1⟩ := rg_at ((HC.out.chg (Chg.of_below hnx) (fun k h1 h2 => by omega))) hx
      have hJ2 : J (zs.take k) (wr.alloc (.cells #[.int .i64 x.lo, .int .i64 x.hi] 46)) := hJ _ _ _ none hJs (World.grownBy_alloc wr _ none) (fun r e => by cases e)
      obtain ⟨fn, tmps, assign, body, hy, hR⟩ := hY _ x _ hJ2 (by rw [List.length_take]; omega)
      have HTK := hid (show zs.take (k + 1) = zs.take k ++ [x] by rw [List.take_add_one, hx]; rfl)
      have HNX := hid (hnx.alloc (show n₀ ≤ wr.heap.size from Nat.le_trans hn0 hnx.size) (.cells #[.int .i64 x.lo, .int .i64 x.hi] 46))
      clear hx
      gi_wp2
      refine hR.mono ?_
      rintro e W3 (⟨rfl, hJ3, hk3⟩ | ⟨rfl, hJx3⟩)
      · rw [← HTK.out] at hJ3
        have HJ3 := hid hJ3
        have HNY := hid (HNX.out.trans hk3)
        clear hJ3 hk3
        gi_wp2
        go_roundw
        case rel => first | exact ⟨k + 1, by omega, by go_num, HJ3.out, HNY.out⟩ | ((repeat apply Exists.intro); exact ⟨⟨k + 1, by omega, by go_num, HJ3.out, HNY.out⟩, rfl⟩)
        case measure => simp [intOf]; omega
      · rw [← HTK.out] at hJx3
        have HJ3 := hid hJx3
        clear hJx3
        gi_wp2
        refine bodyPost_ret (results_none rfl _ _ _) rfl ?_
        exact ⟨⟨_, rfl⟩, .inr ⟨_, List.take_prefix _ _, HJ3.out⟩⟩
    · obtain rfl : k = len := by omega
      gi_wp2
      go_end0
      exact ⟨⟨_, rfl⟩, .inl ⟨_, by rw [List.take_of_length_le (by omega)], hJs⟩⟩

set_option maxHeartbeats 1000000 in
/-- slices.Values: the slice is boxed; the function value captures the box. -/
theorem values_in (F : Fence) (n : Nat) (h38 : F.fn 38) (hro : F.round = none) (a : Option Addr) (len cap : Nat) (w : World) :
    CallsIn F n Try.prog 38 #[.slice a len cap] w fun e w' => e = .returned (.func (.func 45) #[] #[.pointer (some ⟨w.heap.size, 0, none⟩)]) ∧ w' = w.alloc (.cells #[.slice a len cap] 22) := by
  refine callsIn_of_wp Try.func38 rfl h38 ?_ hro
  simp only [Try.ntmps38, List.size_toArray, List.length_cons, List.length_nil, Nat.reduceAdd, Nat.reduceSub, Array.replicate_succ, Array.replicate_zero, List.push_toArray, List.append_toArray, List.nil_append, List.cons_append]
  gi_wp2
  go_ret
  exact ⟨rfl, rfl⟩
theorem values_any (a : Option Addr) (len cap : Nat) (w : World) :
    Calls Try.prog 38 #[.slice a len cap] w fun e w' => e = .returned (.func (.func 45) #[] #[.pointer (some ⟨w.heap.size, 0, none⟩)]) ∧ w' = w.alloc (.cells #[.slice a len cap] 22) := by
  go_enter Try.func38, Try.ntmps38
  go_wp2
  go_ret
  exact ⟨rfl, rfl⟩
/-- What slices.Values hands back goes through all of zs, in order, or a part of it. -/
theorem values_stops (F : Fence) (n : Nat) (h45 : F.fn 45) (hro : F.round = none) (hn : 1 ≤ n) (Bs n₀ : Nat) (A : Option Addr) (len cap : Nat) (zs : List Rg) (hlen : len ≤ 1000000) (w : World) (hBs : Bs < w.heap.size) (hn₀ : n₀ ≤ w.heap.size)
    (hc : w.cell? ⟨Bs, 0, none⟩ = some (.slice A len cap)) (hI : Ty.At rgK w (fun k => k < n₀) A len cap zs) :
    SeqStopsK F n Try.prog 45 #[.pointer (some ⟨Bs, 0, none⟩)] (fun x : Rg => #[Value.agg #[.int .i64 x.lo, .int .i64 x.hi]]) (Below n₀) (fun ys => ys = zs) (fun pre => pre <+: zs) len w := fun l J Jx W hW hJ _ hY h0 =>
  values1_in F n h45 hro hn l Bs n₀ _ A len cap zs hlen J Jx hJ hY W ((hW.cell (p := ⟨Bs, 0, none⟩) hBs).trans hc) (hI.chg (Chg.of_below (hW.mono hn₀)) (fun k h1 h2 => by omega)) h0 (Nat.le_trans hn₀ hW.size)
end Go.Proofs.Ytoojifcpjbakgaa.Cl
