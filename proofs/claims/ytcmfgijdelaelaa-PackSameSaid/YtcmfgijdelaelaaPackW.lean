
/- The codec in memory: one that writes (Wr), one that reads (Rd); numbers' pointers. -/

import Derived.Test.YtcmfgijdelaelaaVec

import Derived.Test.YtcmfgijdelaelaaPackD

namespace Go.Proofs.Ytcmfgijdelaelaa.Pa

set_option linter.unusedVariables false

set_option linter.unusedSimpArgs false

open Go.RowKit Go.Proofs.Ytcmfgijdelaelaa.C

theorem info5 : (Try.prog.info? 5).map (fun i => (i.zero, i.size, i.bytes)) = some (some (.int .u8 0), 1, 1) := by kernel_rfl

/-- A codec that writes, at block g; v: its bytes' slice; it has written x; its memory lies in S. -/
structure Wr (w : World) (S : Nat → Prop) (g : Nat) (v : Value) (x : List UInt8) : Prop where
  inS : S g
  blk : w.heap[g]? = some (.cells #[v, .int .i64 0, .bool true, .bool false] 75 (0, 0))
  row : w.ownsRow 0 5 1 v x.length (u8s x)
  rowS : ∀ k, v.ownBlock = some k → S k
theorem Wr.ne {w : World} {S : Nat → Prop} {g : Nat} {v : Value} {x : List UInt8} (h : Wr w S g v x) : v.ownBlock ≠ some g := own_ne h.row h.blk (by decide)
theorem Wr.cells {w : World} {S : Nat → Prop} {g : Nat} {v : Value} {x : List UInt8} (h : Wr w S g v x) :
    w.cell? ⟨g, 0, none⟩ = some v ∧ w.cell? ⟨g, 1, none⟩ = some (.int .i64 0) ∧ w.cell? ⟨g, 2, none⟩ = some (.bool true) ∧ w.cell? ⟨g, 3, none⟩ = some (.bool false) := by
  refine ⟨?_, ?_, ?_, ?_⟩ <;> (rw [cellAt h.blk]; rfl)
theorem Wr.chg {w w' : World} {S M : Nat → Prop} {g : Nat} {v : Value} {x : List UInt8} (h : Wr w S g v x) (hc : Chg M w w') (hd : ∀ k, S k → ¬ M k) : Wr w' S g v x :=
  ⟨h.inS, hc.blk h.blk (hd _ h.inS), hc.own h.row (fun k hk => hd _ (h.rowS k hk)), h.rowS⟩
theorem Wr.mono {w : World} {S S' : Nat → Prop} {g : Nat} {v : Value} {x : List UInt8} (h : Wr w S g v x) (hS : ∀ k, k < w.heap.size → S k → S' k) : Wr w S' g v x :=
  ⟨hS _ (lt_of_blk h.blk) h.inS, h.blk, h.row, fun k hk => hS _ (own_lt h.row k hk) (h.rowS k hk)⟩
theorem Wr.form {w : World} {S : Nat → Prop} {g : Nat} {v : Value} {x : List UInt8} (h : Wr w S g v x) : ∃ A c, v = .slice A x.length c := by
  obtain ⟨A, c, hv, _⟩ := own_sees h.row
  exact ⟨A, c, hv⟩
theorem Wr.lt {w : World} {S : Nat → Prop} {g : Nat} {v : Value} {x : List UInt8} (h : Wr w S g v x) : g < w.heap.size := lt_of_blk h.blk

/-- More was written. -/
def WrTo (S : Nat → Prop) (g : Nat) (x : List UInt8) (w w' : World) : Prop := ∃ v, Wr w' (fun k => S k ∨ w.heap.size ≤ k) g v x ∧ Chg S w w'
theorem WrTo.refl {S : Nat → Prop} {g : Nat} {x : List UInt8} {w : World} {v : Value} (h : Wr w S g v x) : WrTo S g x w w := ⟨v, h.mono (fun _ _ h => .inl h), Chg.refl _ _⟩
theorem WrTo.trans {S : Nat → Prop} {g : Nat} {x y : List UInt8} {w w1 w2 : World} (h : WrTo S g x w w1) (k : WrTo (fun k => S k ∨ w.heap.size ≤ k) g y w1 w2) : WrTo S g y w w2 := by
  obtain ⟨v, h1, h2⟩ := h
  obtain ⟨v', k1, k2⟩ := k
  refine ⟨v', k1.mono (fun j _ hj => ?_), h2.trans k2 (fun j hj hlt => ?_)⟩
  · rcases hj with (hj | hj) | hj
    · exact .inl hj
    · exact .inr hj
    · exact .inr (Nat.le_trans h2.size hj)
  · rcases hj with hj | hj
    · exact hj
    · omega
/-- Ahead of it new memory was made, or a draw was taken. -/
theorem WrTo.pre {S S0 : Nat → Prop} {g : Nat} {y : List UInt8} {w w1 w2 : World} (h : Chg (fun _ => False) w w1) (k : WrTo S0 g y w1 w2) (hS : ∀ k, S0 k → S k ∨ w.heap.size ≤ k) : WrTo S g y w w2 := by
  obtain ⟨v', k1, k2⟩ := k
  refine ⟨v', k1.mono (fun j _ hj => ?_), (h.mono (fun _ h _ => h.elim)).trans k2 (fun j hj hlt => ?_)⟩
  · rcases hj with hj | hj
    · exact hS j hj
    · exact .inr (Nat.le_trans h.size hj)
  · rcases hS j hj with hj | hj
    · exact hj
    · omega
theorem WrTo.drewN {S : Nat → Prop} {g : Nat} {y : List UInt8} {w w' : World} (h : WrTo S g y w w') (q : Nat) : WrTo S g y w (w'.drewN q) := by
  obtain ⟨v, h1, h2⟩ := h
  exact ⟨v, h1.chg ((Chg.refl (fun _ => False) w').drewN q) (fun _ _ h => h), h2.drewN q⟩
theorem Wr.bound {w : World} {S : Nat → Prop} {g : Nat} {v : Value} {x : List UInt8} (h : Wr w S g v x) : Wr w (fun k => S k ∧ k < w.heap.size) g v x := h.mono (fun _ hl h => ⟨h, hl⟩)

/-- A codec that reads, at block g, the bytes b, which lie below B. -/
structure Rd (w : World) (B g : Nat) (A : Option Addr) (n c : Nat) (b : List UInt8) (at_ : Nat) (bad : Bool) : Prop where
  low : B ≤ g
  blk : w.heap[g]? = some (.cells #[.slice A n c, .int .i64 (at_ : Int), .bool false, .bool bad] 75 (0, 0))
  row : Ty.At Ty.u8 w (fun k => k < B) A n c b
  le : at_ ≤ n
theorem Rd.cells {w : World} {B g : Nat} {A : Option Addr} {n c : Nat} {b : List UInt8} {at_ : Nat} {bad : Bool} (h : Rd w B g A n c b at_ bad) :
    w.cell? ⟨g, 0, none⟩ = some (.slice A n c) ∧ w.cell? ⟨g, 1, none⟩ = some (.int .i64 (at_ : Int)) ∧ w.cell? ⟨g, 2, none⟩ = some (.bool false) ∧ w.cell? ⟨g, 3, none⟩ = some (.bool bad) := by
  refine ⟨?_, ?_, ?_, ?_⟩ <;> (rw [cellAt h.blk]; rfl)
theorem Rd.lt {w : World} {B g : Nat} {A : Option Addr} {n c : Nat} {b : List UInt8} {at_ : Nat} {bad : Bool} (h : Rd w B g A n c b at_ bad) : g < w.heap.size := lt_of_blk h.blk
theorem Rd.chg {w w' : World} {B g : Nat} {A : Option Addr} {n c : Nat} {b : List UInt8} {at_ : Nat} {bad : Bool} {M : Nat → Prop} (h : Rd w B g A n c b at_ bad) (hc : Chg M w w') (hM : ∀ k, M k → B ≤ k) (hg : ¬ M g) : Rd w' B g A n c b at_ bad :=
  ⟨h.low, hc.blk h.blk hg, h.row.chg hc (fun k hk hm => by have := hM k hm; omega), h.le⟩
/-- What is left to be read; none: it is bad. -/
def left (b : List UInt8) (at_ : Nat) (bad : Bool) : Option (List UInt8) := if bad then none else some (b.drop at_)
/-- Something was read by rd: the state behind, and what was read. -/
def RdTo {α : Type} (B g : Nat) (A : Option Addr) (n c : Nat) (b : List UInt8) (at_ : Nat) (bad : Bool) (rd : List UInt8 → Option (α × List UInt8)) (w' : World) (x : α) : Prop :=
  ∃ at' bad', Rd w' B g A n c b at' bad' ∧ (left b at_ bad).bind rd = (left b at' bad').map fun r => (x, r)

/-- Numbers in cells. -/
def ints (l : List Int) : List Value := l.map fun n => .int .i64 n
@[simp] theorem ints_length (l : List Int) : (ints l).length = l.length := by simp [ints]
theorem ints_at {l : List Int} {i : Nat} {n : Int} (h : l[i]? = some n) (r : List Value) : (ints l ++ r).toArray[i]? = some (.int .i64 n) := by
  have hi : i < l.length := by
    rcases Nat.lt_or_ge i l.length with h' | h'
    · exact h'
    · rw [List.getElem?_eq_none h'] at h; cases h
  rw [List.getElem?_toArray, List.getElem?_append_left (by simpa using hi), ints, List.getElem?_map, h]
  rfl
theorem ints_set (us : List Int) (v x : Int) (vs : List Int) (r : List Value) : (ints (us ++ v :: vs) ++ r).toArray.setIfInBounds us.length (.int .i64 x) = (ints (us ++ [x] ++ vs) ++ r).toArray := by
  apply Array.ext'
  rw [Array.toList_setIfInBounds]
  simp [ints, List.set_append]
/-- Pointers to a block's first cells. -/
def ptrs (p n : Nat) : List Value := (List.range n).map fun i => .pointer (some ⟨p, i, none⟩)
@[simp] theorem ptrs_length (p n : Nat) : (ptrs p n).length = n := by simp [ptrs]
theorem ptrs_at {p n i : Nat} (h : i < n) : (ptrs p n)[i]? = some (.pointer (some ⟨p, i, none⟩)) := by simp [ptrs, h]

/-- What a number may be that is written. -/
def NumOk (n : Int) : Prop := -1 ≤ n ∧ n ≤ 1099511627776

theorem six_get {m : Nat} {j : Nat} (h : j < 6) : (six m)[j]? = some (UInt8.ofNat (m / 2 ^ (40 - 8 * j))) := by
  have : j = 0 ∨ j = 1 ∨ j = 2 ∨ j = 3 ∨ j = 4 ∨ j = 5 := by omega
  rcases this with rfl | rfl | rfl | rfl | rfl | rfl <;> simp [six]
theorem num_take_succ (n : Int) {j : Nat} (h : j < 6) : (num n).take (j + 1) = (num n).take j ++ [UInt8.ofNat (((n + 1) % 281474976710656).toNat / 2 ^ (40 - 8 * j))] := by
  rw [List.take_add_one, num, six_get h]
  rfl
end Go.Proofs.Ytcmfgijdelaelaa.Pa
