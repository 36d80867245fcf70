
/- Kinds: rules and entries in memory. -/

import Derived.Test.YtcmfgijdelaelaaPackU

import Derived.Test.YtcmfgijdelaelaaTy

namespace Go.Proofs.Ytcmfgijdelaelaa.Pa

set_option linter.unusedVariables false

set_option linter.unusedSimpArgs false

open Go.RowKit Go.Proofs.Ytcmfgijdelaelaa.C

theorem set_same {cs : Array Value} {o : Nat} {v : Value} (h : cs[o]? = some v) : cs.setIfInBounds o v = cs := by
  apply Array.ext'
  rw [Array.toList_setIfInBounds]
  apply List.ext_getElem?
  intro i
  rw [List.getElem?_set]
  have h' : cs.toList[o]? = some v := by rw [Array.getElem?_toList]; exact h
  by_cases e : o = i
  · subst e
    have hl := (List.getElem?_eq_some_iff.1 h').1
    rw [if_pos rfl, if_pos hl, h']
  · rw [if_neg e]
def ruleK : Ty Rule := Ty.iso (Ty.pair (Ty.int .i64) (Ty.pair (Ty.int .i64) (Ty.pair (Ty.int .i64) (Ty.pair (Ty.int .i64) Ty.str)))) (fun r => (r.id, r.pri, r.act, r.scope, r.pat))
theorem ruleK_sz : ruleK.sz = 5 := rfl
theorem rule_open {w : World} {S : Nat → Prop} {r : Rule} {cs : List Value} (h : ruleK.K w S r cs) : cs = ruleCells r ∧ RuleWf r := by
  obtain ⟨_, _, rfl, ⟨rfl, w1⟩, _, _, rfl, ⟨rfl, w2⟩, _, _, rfl, ⟨rfl, w3⟩, _, _, rfl, ⟨rfl, w4⟩, rfl, w5⟩ := h
  refine ⟨rfl, ?_, w5⟩
  intro u hu
  simp [Rule.nums] at hu
  rcases hu with rfl | rfl | rfl | rfl <;> assumption
theorem rule_shut {w : World} {S : Nat → Prop} {r : Rule} (h : RuleWf r) : ruleK.K w S r (ruleCells r) := by
  have h0 := h.1
  simp [Rule.nums] at h0
  exact ⟨[_], _, rfl, ⟨rfl, h0.1⟩, [_], _, rfl, ⟨rfl, h0.2.1⟩, [_], _, rfl, ⟨rfl, h0.2.2.1⟩, [_], [_], rfl, ⟨rfl, h0.2.2.2⟩, rfl, h.2⟩

/-- An entry's numbers. -/
def Entry.nums (e : Entry) : List Int := [e.view, e.client, e.request, e.dflt, e.closed, e.fuel, e.stack]
def entryK : Ty Entry := Ty.iso (Ty.pair (Ty.int .i64) (Ty.pair (Ty.int .i64) (Ty.pair (Ty.int .i64) (Ty.pair (Ty.int .i64) (Ty.pair (Ty.int .i64) (Ty.pair (Ty.int .i64) (Ty.pair (Ty.int .i64) (Ty.pair (Ty.slice ruleK) (Ty.slice (Ty.int .i64))))))))))
  (fun e => (e.view, e.client, e.request, e.dflt, e.closed, e.fuel, e.stack, e.put, e.drop))
theorem entryK_sz : entryK.sz = 9 := rfl
/-- An entry's cells: where its lists lie. -/
def EntryAt (w : World) (S : Nat → Prop) (e : Entry) (A1 : Option Addr) (n1 c1 : Nat) (A2 : Option Addr) (n2 c2 : Nat) : Prop :=
  (∀ u ∈ e.nums, (Lit.int .i64 u).wf = true) ∧ Ty.At ruleK w S A1 n1 c1 e.put ∧ Ty.At (Ty.int .i64) w S A2 n2 c2 e.drop
def entryCells (e : Entry) (A1 : Option Addr) (n1 c1 : Nat) (A2 : Option Addr) (n2 c2 : Nat) : List Value := ints e.nums ++ [.slice A1 n1 c1, .slice A2 n2 c2]
theorem entry_open {w : World} {S : Nat → Prop} {e : Entry} {cs : List Value} (h : entryK.K w S e cs) : ∃ A1 n1 c1 A2 n2 c2, cs = entryCells e A1 n1 c1 A2 n2 c2 ∧ EntryAt w S e A1 n1 c1 A2 n2 c2 := by
  obtain ⟨_, _, rfl, ⟨rfl, w1⟩, _, _, rfl, ⟨rfl, w2⟩, _, _, rfl, ⟨rfl, w3⟩, _, _, rfl, ⟨rfl, w4⟩, _, _, rfl, ⟨rfl, w5⟩, _, _, rfl, ⟨rfl, w6⟩, _, _, rfl, ⟨rfl, w7⟩, _, _, rfl, ⟨A1, n1, c1, rfl, h1⟩, A2, n2, c2, rfl, h2⟩ := h
  refine ⟨A1, n1, c1, A2, n2, c2, rfl, ?_, h1, h2⟩
  intro u hu
  simp [Entry.nums] at hu
  rcases hu with rfl | rfl | rfl | rfl | rfl | rfl | rfl <;> assumption
theorem entry_shut {w : World} {S : Nat → Prop} {e : Entry} {A1 : Option Addr} {n1 c1 : Nat} {A2 : Option Addr} {n2 c2 : Nat} (h : EntryAt w S e A1 n1 c1 A2 n2 c2) : entryK.K w S e (entryCells e A1 n1 c1 A2 n2 c2) := by
  have h0 := h.1
  simp [Entry.nums] at h0
  obtain ⟨w1, w2, w3, w4, w5, w6, w7⟩ := h0
  exact ⟨[_], _, rfl, ⟨rfl, w1⟩, [_], _, rfl, ⟨rfl, w2⟩, [_], _, rfl, ⟨rfl, w3⟩, [_], _, rfl, ⟨rfl, w4⟩, [_], _, rfl, ⟨rfl, w5⟩, [_], _, rfl, ⟨rfl, w6⟩, [_], _, rfl, ⟨rfl, w7⟩, [_], [_], rfl, ⟨A1, n1, c1, rfl, h.2.1⟩, A2, n2, c2, rfl, h.2.2⟩
theorem EntryAt.chg {w w' : World} {S M : Nat → Prop} {e : Entry} {A1 : Option Addr} {n1 c1 : Nat} {A2 : Option Addr} {n2 c2 : Nat} (h : EntryAt w S e A1 n1 c1 A2 n2 c2) (hc : Chg M w w') (hd : ∀ k, S k → ¬ M k) : EntryAt w' S e A1 n1 c1 A2 n2 c2 := ⟨h.1, h.2.1.chg hc hd, h.2.2.chg hc hd⟩
theorem EntryAt.mono {w : World} {S S' : Nat → Prop} {e : Entry} {A1 : Option Addr} {n1 c1 : Nat} {A2 : Option Addr} {n2 c2 : Nat} (h : EntryAt w S e A1 n1 c1 A2 n2 c2) (hd : ∀ k, S k → S' k) : EntryAt w S' e A1 n1 c1 A2 n2 c2 := ⟨h.1, h.2.1.mono hd, h.2.2.mono hd⟩
theorem EntryAt.bound {w : World} {S : Nat → Prop} {e : Entry} {A1 : Option Addr} {n1 c1 : Nat} {A2 : Option Addr} {n2 c2 : Nat} (h : EntryAt w S e A1 n1 c1 A2 n2 c2) : EntryAt w (fun k => S k ∧ k < w.heap.size) e A1 n1 c1 A2 n2 c2 := ⟨h.1, h.2.1.bound, h.2.2.bound⟩
/-- Cell j of an element of a slice that is read. -/
theorem elem_cell {w : World} {a : Addr} {i sz : Nat} {cs : List Value} (h : ∀ j u, cs[j]? = some u → w.cell? (a.add (i * sz + j)) = some u) (j : Nat) (u : Value) (hu : cs[j + 1]? = some u) : w.cell? ⟨(a.add (i * sz)).block, (a.add (i * sz)).off + (j + 1), none⟩ = some u := by
  have := h (j + 1) u hu
  rw [← C.add_add] at this
  generalize a.add (i * sz) = q at this ⊢
  rw [← this]
  congr 1
theorem elem_cell0 {w : World} {a : Addr} {i sz : Nat} {cs : List Value} (h : ∀ j u, cs[j]? = some u → w.cell? (a.add (i * sz + j)) = some u) (u : Value) (hu : cs[0]? = some u) : w.cell? (a.add (i * sz)) = some u := h 0 u hu
end Go.Proofs.Ytcmfgijdelaelaa.Pa
