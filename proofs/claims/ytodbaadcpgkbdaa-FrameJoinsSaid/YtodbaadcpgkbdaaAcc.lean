/- Slices that are built by append, an element at a time: the row is one's own, what its elements point to lies in R, and not in the row's own block. -/
import Derived.Test.YtodbaadcpgkbdaaTy
namespace Go.Proofs.Ytodbaadcpgkbdaa.C
set_option linter.unusedVariables false
set_option linter.unusedSimpArgs false
open Go.RowKit

def Acc {α : Type} (d : Ty α) (e : TypeId) (w0 w : World) (R : Nat → Prop) (v : Value) (xs : List α) : Prop :=
  ∃ cells, w.ownsRow 0 e d.sz v xs.length cells ∧ (∀ k, v.ownBlock = some k → w0.heap.size ≤ k) ∧ Ty.Row d w (fun k => (R k ∧ k < w.heap.size) ∧ v.ownBlock ≠ some k) xs cells

theorem Acc.nil {α : Type} (d : Ty α) (e : TypeId) (w0 w : World) (R : Nat → Prop) : Acc d e w0 w R (.slice none 0 0) [] :=
  ⟨[], own_nil _ _ _, fun k hk => by simp [Value.ownBlock] at hk, Ty.Row.nil _ _ _⟩
theorem Acc.form {α : Type} {d : Ty α} {e : TypeId} {w0 w : World} {R : Nat → Prop} {v : Value} {xs : List α} (h : Acc d e w0 w R v xs) : ∃ A c, v = .slice A xs.length c := by
  obtain ⟨cells, h1, _⟩ := h
  obtain ⟨A, c, hv, _⟩ := own_sees h1
  exact ⟨A, c, hv⟩
theorem Acc.chg {α : Type} {d : Ty α} {e : TypeId} {w0 w w' : World} {R M : Nat → Prop} {v : Value} {xs : List α} (h : Acc d e w0 w R v xs) (hc : Chg M w w') (hv : ∀ k, v.ownBlock = some k → ¬ M k) (hR : ∀ k, R k → k < w.heap.size → v.ownBlock ≠ some k → ¬ M k) : Acc d e w0 w' R v xs := by
  obtain ⟨cells, h1, h2, h3⟩ := h
  exact ⟨cells, hc.own h1 hv, h2, (h3.chg hc (fun k hk => hR k hk.1.1 hk.1.2 hk.2)).mono (fun k hk => ⟨⟨hk.1.1, Nat.lt_of_lt_of_le hk.1.2 hc.size⟩, hk.2⟩)⟩
/-- What is told, for reading. -/
theorem Acc.at {α : Type} {d : Ty α} {e : TypeId} {w0 w : World} {R : Nat → Prop} {A : Option Addr} {n c : Nat} {xs : List α} (h : Acc d e w0 w R (.slice A n c) xs) (hs : d.sz = 1) : Ty.At d w (fun k => w0.heap.size ≤ k ∨ R k) A n c xs := by
  obtain ⟨cells, h1, h2, h3⟩ := h
  have hn : n = xs.length := by
    obtain ⟨A', c', hv, _⟩ := own_sees h1
    injection hv
  subst hn
  obtain ⟨q1, q2, q3, q4⟩ := own_at h1
  exact ⟨rfl, q1, q2, q3, cells, q4.mono (fun k hk => .inl (h2 k hk)), h3.mono (fun k hk => .inr hk.1.1)⟩
/-- Behind append(v, x): v' is v with x's cells at its end. -/
theorem Acc.snoc {α : Type} {d : Ty α} {e : TypeId} {w0 w w' : World} {R : Nat → Prop} {v : Value} {xs : List α} {x : α} {cs : List Value} {A' : Option Addr} {c' : Nat} {cells : List Value}
    (h0 : w0.heap.size ≤ w.heap.size) (h1 : ∀ k, v.ownBlock = some k → w0.heap.size ≤ k) (h3 : Ty.Row d w (fun k => (R k ∧ k < w.heap.size) ∧ v.ownBlock ≠ some k) xs cells) (hx : d.K w (fun k => (R k ∧ k < w.heap.size) ∧ v.ownBlock ≠ some k) x cs)
    (g1 : w'.ownsRow 0 e d.sz (.slice A' (xs.length + 1) c') (xs.length + 1) (cells ++ cs)) (g2 : Chg (fun k => v.ownBlock = some k) w w') (g3 : ∀ k, (Value.slice A' (xs.length + 1) c').ownBlock = some k → v.ownBlock = some k ∨ w.heap.size ≤ k) : Acc d e w0 w' R (.slice A' (xs.length + 1) c') (xs ++ [x]) := by
  have hfar : ∀ k, ((R k ∧ k < w.heap.size) ∧ v.ownBlock ≠ some k) → (R k ∧ k < w'.heap.size) ∧ (Value.slice A' (xs.length + 1) c').ownBlock ≠ some k := fun k hk => ⟨⟨hk.1.1, Nat.lt_of_lt_of_le hk.1.2 g2.size⟩, fun hv => by
    rcases g3 k hv with h | h
    · exact hk.2 h
    · have := hk.1.2; omega⟩
  refine ⟨cells ++ cs, by rw [List.length_append, List.length_singleton]; exact g1, fun k hk => ?_, ?_⟩
  · rcases g3 k hk with h | h
    · exact h1 k h
    · omega
  · exact (Ty.Row.snoc (h3.chg g2 (fun k hk => hk.2)) (d.chg hx g2 (fun k hk => hk.2))).mono hfar
end Go.Proofs.Ytodbaadcpgkbdaa.C
