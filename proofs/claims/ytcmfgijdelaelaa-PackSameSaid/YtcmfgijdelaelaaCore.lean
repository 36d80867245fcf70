
/- Words of memory for this seat's walks: what may have changed (Chg), what is seen (Sees), and append, clone and copy as laws over them. -/

import Derived.Test.YtcmfgijdelaelaaProg

import Derived.Below

import Derived.Deep.Draws

import Derived.Deep.AppendLies

import Derived.Maps.AppendAt

import Derived.OwnWalk

import Derived.Laws.BytesArg

import Derived.Laws.MakeOwn

import Derived.Laws.OwnMore

import Derived.Deep.OwnRows

import Derived.Tactics

import Derived.Lib.ConvBytes

import Derived.Laws.Slices

import Derived.WalkKit

import Derived.KernelRfl

import Derived.RowKit3

import Derived.Deep.LoopGhost

import Derived.Deep.QuietTactic

import Derived.BigQuiet

import Derived.WideLaws

import Derived.Deep.DeepCutAuto

import Derived.Deep.CutBlock

import Derived.Deep.RegionHeld3

import Derived.Deep.RegionLaw

import Derived.StillTailTactics

import Derived.Laws.Rows

import Derived.Lib.AppendStr

import Derived.ArgAppend

import Derived.Laws.IdiomCopy

import Derived.OrdersHeld

import Derived.Laws.BitsLemmas

import Derived.Laws.BitsAllLaws

import Derived.WalkSpells

import Derived.Lib.LazyBuf

import Derived.RowKit

namespace Go.Proofs.Ytcmfgijdelaelaa.C

set_option linter.unusedVariables false

set_option linter.unusedSimpArgs false

open Go.RowKit

theorem hid {p : Prop} (h : p) : Hid p := h

/-- Behind a step of what may write the blocks S: all other old blocks are as they were. -/
structure Chg (S : Nat → Prop) (w w' : World) : Prop where
  os : w'.os = w.os
  tape : w'.tape = w.tape
  output : w'.output = w.output
  size : w.heap.size ≤ w'.heap.size
  block : ∀ k, k < w.heap.size → ¬ S k → w'.heap[k]? = w.heap[k]?

theorem Chg.refl (S : Nat → Prop) (w : World) : Chg S w w := ⟨rfl, rfl, rfl, Nat.le_refl _, fun _ _ _ => rfl⟩
theorem Chg.trans {S S' : Nat → Prop} {a b c : World} (h : Chg S a b) (k : Chg S' b c) (hS : ∀ i, S' i → i < a.heap.size → S i) : Chg S a c :=
  ⟨k.os.trans h.os, k.tape.trans h.tape, k.output.trans h.output, Nat.le_trans h.size k.size,
   fun i hi hn => (k.block i (Nat.lt_of_lt_of_le hi h.size) (fun hs => hn (hS i hs hi))).trans (h.block i hi hn)⟩
theorem Chg.mono {S S' : Nat → Prop} {a b : World} (h : Chg S a b) (hS : ∀ i, S i → i < a.heap.size → S' i) : Chg S' a b :=
  ⟨h.os, h.tape, h.output, h.size, fun i hi hn => h.block i hi (fun hs => hn (hS i hs hi))⟩
theorem Chg.drew {S : Nat → Prop} {a b : World} (h : Chg S a b) : Chg S a b.drew := ⟨h.os, h.tape, h.output, h.size, h.block⟩
theorem Chg.drewN {S : Nat → Prop} {a b : World} (h : Chg S a b) (n : Nat) : Chg S a (b.drewN n) := ⟨h.os, h.tape, h.output, h.size, h.block⟩
theorem Chg.alloc {S : Nat → Prop} {a b : World} (h : Chg S a b) (o : Obj) : Chg S a (b.alloc o) :=
  ⟨h.os, h.tape, h.output, Nat.le_trans h.size (by simp), fun i hi hn => (Below.heap_alloc _ _ _ (Nat.lt_of_lt_of_le hi h.size)).trans (h.block i hi hn)⟩
theorem Chg.set {S : Nat → Prop} {a b : World} (h : Chg S a b) {p : Addr} (hp : p.block < a.heap.size → S p.block) (v : Value) : Chg S a (b.setCell p v) :=
  ⟨h.os, h.tape, h.output, by simpa [World.setCell] using h.size, fun i hi hn => (Below.heap_setCell _ _ _ _ (fun e => hn (by subst e; exact hp hi))).trans (h.block i hi hn)⟩
theorem Chg.grown {S : Nat → Prop} {a b c : World} (h : Chg S a b) {row : Option Nat} (hg : b.grownBy c row) (hr : ∀ k, row = some k → k < a.heap.size → S k) : Chg S a c :=
  ⟨hg.os.trans h.os, hg.tape.trans h.tape, hg.output.trans h.output, Nat.le_trans h.size hg.size,
   fun i hi hn => (hg.block i (Nat.lt_of_lt_of_le hi h.size) (fun e => hn (hr i e.symm hi))).trans (h.block i hi hn)⟩
theorem Chg.below {S : Nat → Prop} {a b : World} {B : Nat} (h : Chg S a b) (hB : B ≤ a.heap.size) (hS : ∀ k, S k → B ≤ k) : Below B a b :=
  ⟨h.os, h.tape, h.output, h.size, fun k hk => h.block k (Nat.lt_of_lt_of_le hk hB) (fun hs => by have := hS k hs; omega)⟩
theorem Chg.of_below {a b : World} {B : Nat} (h : Below B a b) : Chg (fun k => B ≤ k) a b := ⟨h.os, h.tape, h.output, h.size, fun k _ hn => h.block k (by omega)⟩
theorem below_drewN {B : Nat} {a b : World} (h : Below B a b) (n : Nat) : Below B a (b.drewN n) := ⟨h.os, h.tape, h.output, h.size, h.block⟩
theorem lt_of_blk {w : World} {g : Nat} {o : Obj} (h : w.heap[g]? = some o) : g < w.heap.size := (Array.getElem?_eq_some_iff.1 h).1
theorem Chg.blk {S : Nat → Prop} {a b : World} (h : Chg S a b) {g : Nat} {o : Obj} (hg : a.heap[g]? = some o) (hn : ¬ S g) : b.heap[g]? = some o := (h.block g (lt_of_blk hg) hn).trans hg
theorem Chg.cell {S : Nat → Prop} {a b : World} (h : Chg S a b) {p : Addr} {v : Value} (hc : a.cell? p = some v) (hn : ¬ S p.block) : b.cell? p = some v :=
  (World.cell?_of_block (h.block p.block (World.block_lt_of_cell? a p hc) hn)).trans hc
theorem Chg.own {S : Nat → Prop} {a b : World} (h : Chg S a b) {base e size n : Nat} {v : Value} {xs : List Value} (ho : a.ownsRow base e size v n xs) (hn : ∀ k, v.ownBlock = some k → ¬ S k) : b.ownsRow base e size v n xs := by
  obtain ⟨h1, h2⟩ := ho
  refine ⟨h1, ?_⟩
  rcases h2 with h2 | ⟨g, cap, cur, hv, hg, hh, r⟩
  · exact .inl h2
  · exact .inr ⟨g, cap, cur, hv, hg, h.blk hh (hn g (by simp [hv, Value.ownBlock])), r⟩

/-- The cells from A on, as far as cs goes; they lie in a block of S. -/
def Sees (w : World) (S : Nat → Prop) (A : Option Addr) (cs : List Value) : Prop :=
  cs = [] ∨ ∃ a, A = some a ∧ S a.block ∧ ∀ j u, cs[j]? = some u → w.cell? (a.add j) = some u
theorem Sees.nil (w : World) (S : Nat → Prop) (A : Option Addr) : Sees w S A [] := .inl rfl
theorem add_block (a : Addr) (i : Nat) : (a.add i).block = a.block := by unfold Addr.add; split <;> rfl
theorem add_add (a : Addr) (i j : Nat) : (a.add i).add j = a.add (i + j) := by
  unfold Addr.add
  by_cases hi : i = 0 <;> by_cases hj : j = 0 <;> simp [hi, hj, Nat.add_assoc]
theorem add_at (g o j : Nat) : (⟨g, o, none⟩ : Addr).add j = ⟨g, o + j, none⟩ := by unfold Addr.add; split <;> simp_all
theorem Sees.chg {w w' : World} {S M : Nat → Prop} {A : Option Addr} {cs : List Value} (h : Sees w S A cs) (hc : Chg M w w') (hd : ∀ k, S k → ¬ M k) : Sees w' S A cs := by
  rcases h with h | ⟨a, hA, hS, hx⟩
  · exact .inl h
  · exact .inr ⟨a, hA, hS, fun j u hj => hc.cell (hx j u hj) (by rw [add_block]; exact hd _ hS)⟩
theorem Sees.mono {w : World} {S S' : Nat → Prop} {A : Option Addr} {cs : List Value} (h : Sees w S A cs) (hS : ∀ k, S k → S' k) : Sees w S' A cs := by
  rcases h with h | ⟨a, hA, hs, hx⟩
  · exact .inl h
  · exact .inr ⟨a, hA, hS _ hs, hx⟩
theorem Sees.bound {w : World} {S : Nat → Prop} {A : Option Addr} {cs : List Value} (h : Sees w S A cs) : Sees w (fun k => S k ∧ k < w.heap.size) A cs := by
  rcases h with h | ⟨a, hA, hs, hx⟩
  · exact .inl h
  · cases cs with
    | nil => exact .inl rfl
    | cons u cs =>
      refine .inr ⟨a, hA, ⟨hs, ?_⟩, hx⟩
      have := World.block_lt_of_cell? w _ (hx 0 u rfl)
      rwa [add_block] at this
theorem Sees.take {w : World} {S : Nat → Prop} {A : Option Addr} {cs : List Value} (h : Sees w S A cs) (n : Nat) : Sees w S A (cs.take n) := by
  rcases h with h | ⟨a, hA, hs, hx⟩
  · exact .inl (by rw [h]; simp)
  · exact .inr ⟨a, hA, hs, fun j u hj => hx j u (by
      rw [List.getElem?_take] at hj
      split at hj
      · exact hj
      · cases hj)⟩
theorem Sees.drop {w : World} {S : Nat → Prop} {A : Option Addr} {cs : List Value} (h : Sees w S A cs) (n : Nat) : Sees w S (A.map (·.add n)) (cs.drop n) := by
  rcases h with h | ⟨a, hA, hs, hx⟩
  · exact .inl (by rw [h]; simp)
  · refine .inr ⟨a.add n, by rw [hA]; rfl, by rw [add_block]; exact hs, fun j u hj => ?_⟩
    rw [C.add_add]
    exact hx _ u (by rw [List.getElem?_drop] at hj; exact hj)

theorem own_sees {w : World} {base e size n : Nat} {v : Value} {xs : List Value} (h : w.ownsRow base e size v n xs) :
    ∃ A c, v = .slice A n c ∧ n ≤ c ∧ c ≤ maxLen ∧ (A = none → c = 0) ∧ Sees w (fun k => v.ownBlock = some k) A xs := by
  rcases h.2 with ⟨rfl, rfl⟩ | ⟨g, cap, cur, rfl, hg, hh, hn, hm, hc, ht⟩
  · exact ⟨none, 0, rfl, Nat.le_refl _, by simp [maxLen], fun _ => rfl, .inl (List.eq_nil_of_length_eq_zero (by simpa using h.1))⟩
  · refine ⟨_, _, rfl, hn, hm, by simp, .inr ⟨_, rfl, rfl, fun j u hj => ?_⟩⟩
    rw [add_at, Nat.zero_add]
    have hl : j < xs.length := by
      rcases Nat.lt_or_ge j xs.length with hl | hl
      · exact hl
      · rw [List.getElem?_eq_none hl] at hj; cases hj
    rw [h.cellAt j (by rw [← h.1]; exact hl)]
    exact hj
theorem own_lt {w : World} {base e size n : Nat} {v : Value} {xs : List Value} (h : w.ownsRow base e size v n xs) (k : Nat) (hk : v.ownBlock = some k) : k < w.heap.size := by
  rcases h.2 with ⟨rfl, _⟩ | ⟨g, cap, cur, rfl, hg, hh, _⟩
  · simp [Value.ownBlock] at hk
  · have : g = k := by simpa [Value.ownBlock] using hk
    subst this
    exact lt_of_blk hh
theorem own_type {w : World} {base e size n : Nat} {v : Value} {xs : List Value} (h : w.ownsRow base e size v n xs) (k : Nat) (hk : v.ownBlock = some k) : ∃ cur, w.heap[k]? = some (.cells cur e (0, 0)) := by
  rcases h.2 with ⟨rfl, _⟩ | ⟨g, cap, cur, rfl, hg, hh, _⟩
  · simp [Value.ownBlock] at hk
  · have : g = k := by simpa [Value.ownBlock] using hk
    subst this
    exact ⟨cur, hh⟩
theorem own_ne {w : World} {base e size n : Nat} {v : Value} {xs : List Value} (h : w.ownsRow base e size v n xs) {g t : Nat} {cs : Array Value} {m : Nat × Nat} (hb : w.heap[g]? = some (.cells cs t m)) (hne : e ≠ t) : v.ownBlock ≠ some g := by
  intro hk
  obtain ⟨cur, hc⟩ := own_type h g hk
  rw [hc] at hb
  injection hb with hb
  injection hb with _ hb _
  exact hne hb
theorem own_base0 {w : World} {base e size n : Nat} {v : Value} {xs : List Value} (h : w.ownsRow base e size v n xs) : w.ownsRow 0 e size v n xs := by
  obtain ⟨h1, h2⟩ := h
  refine ⟨h1, ?_⟩
  rcases h2 with h2 | ⟨g, cap, cur, hv, hg, r⟩
  · exact .inl h2
  · exact .inr ⟨g, cap, cur, hv, Nat.zero_le _, r⟩
theorem own_nil (w : World) (e size : Nat) : w.ownsRow 0 e size (.slice none 0 0) 0 [] := ⟨by simp, .inl ⟨rfl, rfl⟩⟩

/-! ### max, min -/
def mx (a b : Int) : Int := if a < b then b else a
def mn (a b : Int) : Int := if b < a then b else a
theorem mx_eq (a b : Int) : mx a b = max a b := by unfold mx; split <;> omega
theorem mn_eq (a b : Int) : mn a b = min a b := by unfold mn; split <;> omega
theorem max2_int (k k' : IntKind) (x y : Int) : Builtin.max2 (.int k x) (.int k' y) = pure (.int k (mx x y)) := by simp only [Builtin.max2, gt_iff_lt, mx]
theorem min2_int (k k' : IntKind) (x y : Int) : Builtin.min2 (.int k x) (.int k' y) = pure (.int k (mn x y)) := by simp only [Builtin.min2, mn]
theorem max_two (ats : Array TypeId) (ty : TypeId) (a b : Value) : Builtin.max_ ats ty #[a, b] = (Builtin.max2 a b >>= fun s => pure s) := by simp only [Builtin.max_, List.foldlM_cons, List.foldlM_nil]
theorem min_two (ats : Array TypeId) (ty : TypeId) (a b : Value) : Builtin.min_ ats ty #[a, b] = (Builtin.min2 a b >>= fun s => pure s) := by simp only [Builtin.min_, List.foldlM_cons, List.foldlM_nil]

/-! ### Blocks of cells -/
theorem cellAt {w : World} {g : Nat} {t : TypeId} {cs : Array Value} {m : Nat × Nat} (h : w.heap[g]? = some (.cells cs t m)) (i : Nat) : w.cell? ⟨g, i, none⟩ = cs[i]? := cell_of_row w g i cs t m h
theorem freeAt {w : World} {g : Nat} {t : TypeId} {cs : Array Value} (h : w.heap[g]? = some (.cells cs t (0, 0))) (i : Nat) : w.frozen? ⟨g, i, none⟩ = false := by simp [World.frozen?, h]
theorem blk_set {w : World} {g : Nat} {t : TypeId} {cs : Array Value} (h : w.heap[g]? = some (.cells cs t (0, 0))) (i : Nat) (u : Value) : (w.setCell ⟨g, i, none⟩ u).heap[g]? = some (.cells (cs.setIfInBounds i u) t (0, 0)) := by
  simp only [World.setCell, Array.getElem?_modify, h, Option.map_some]
  simp
theorem blk_far {w : World} {g : Nat} {o : Obj} (h : w.heap[g]? = some o) {p : Addr} (hp : g ≠ p.block) (u : Value) : (w.setCell p u).heap[g]? = some o := (Below.heap_setCell w p u g hp).trans h
theorem blk_alloc {w : World} {g : Nat} {o : Obj} (h : w.heap[g]? = some o) (o' : Obj) : (w.alloc o').heap[g]? = some o := (Below.heap_alloc w o' g (lt_of_blk h)).trans h
theorem blk_new (w : World) (o : Obj) : (w.alloc o).heap[w.heap.size]? = some o := heap_alloc_new w o

/-! ### Bytes -/
def u8s (l : List UInt8) : List Value := l.map fun b => .int .u8 (b.toNat : Int)
@[simp] theorem u8s_length (l : List UInt8) : (u8s l).length = l.length := by simp [u8s]
@[simp] theorem u8s_append (l m : List UInt8) : u8s (l ++ m) = u8s l ++ u8s m := by simp [u8s]
theorem u8s_take (l : List UInt8) (n : Nat) : u8s (l.take n) = (u8s l).take n := by simp [u8s, List.map_take]
theorem u8s_drop (l : List UInt8) (n : Nat) : u8s (l.drop n) = (u8s l).drop n := by simp [u8s, List.map_drop]
theorem u8s_one (l : List UInt8) : ∀ u ∈ u8s l, u.oneCell' = true := by
  intro u hu
  simp only [u8s, List.mem_map] at hu
  obtain ⟨b, _, rfl⟩ := hu
  rfl
theorem u8s_at {l : List UInt8} {j : Nat} {b : UInt8} (h : l[j]? = some b) : (u8s l)[j]? = some (.int .u8 (b.toNat : Int)) := by simp [u8s, h]
theorem u8s_get (l : List UInt8) (j : Nat) (h : j < l.length) : (u8s l)[j]? = some (.int .u8 ((l[j]).toNat : Int)) := by simp [u8s, h]

theorem xor8 (y x : UInt8) : bits BinOp.xor IntKind.u8 (y.toNat : Int) (x.toNat : Int) = (((y ^^^ x).toNat : Nat) : Int) := by
  rw [u8_xor_nat _ _ y.toNat_lt x.toNat_lt, UInt8.toNat_xor]

theorem own_at {w : World} {base e size n c : Nat} {A : Option Addr} {xs : List Value} (h : w.ownsRow base e size (.slice A n c) n xs) :
    n ≤ c ∧ c ≤ maxLen ∧ (A = none → c = 0) ∧ Sees w (fun k => (Value.slice A n c).ownBlock = some k) A xs := by
  obtain ⟨A', c', hv, h1, h2, h3, h4⟩ := own_sees h
  injection hv with e1 _ e3
  subst e1
  subst e3
  exact ⟨h1, h2, h3, h4⟩
/-- Where a row of one's own lies, if it holds something. -/
theorem own_form {w : World} {base e size n c : Nat} {A : Option Addr} {xs : List Value} (h : w.ownsRow base e size (.slice A n c) n xs) (hn : 0 < n) : ∃ g, A = some ⟨g, 0, none⟩ ∧ g < w.heap.size := by
  obtain ⟨g, cap, hv, _, hg⟩ := h.form hn
  injection hv with e1 _ _
  exact ⟨g, e1, hg⟩
/-- Bytes of one's own: one that is read, and written. -/
theorem own_u8 {w : World} {base n c g : Nat} {l : List UInt8} (h : w.ownsRow base 5 1 (.slice (some ⟨g, 0, none⟩) n c) n (u8s l)) {k : Nat} {y : UInt8} (hy : l[k]? = some y) :
    w.cell? ⟨g, k, none⟩ = some (.int .u8 (y.toNat : Int)) ∧ w.frozen? ⟨g, k, none⟩ = false := by
  have hl : k < l.length := by
    rcases Nat.lt_or_ge k l.length with h | h
    · exact h
    · rw [List.getElem?_eq_none h] at hy; cases hy
  have hn : l.length = n := by have := h.1; simpa using this
  refine ⟨?_, h.frozenAt k⟩
  rw [h.cellAt k (by omega)]
  exact u8s_at hy
theorem own_u8_set {w : World} {base n c g : Nat} {l : List UInt8} (h : w.ownsRow base 5 1 (.slice (some ⟨g, 0, none⟩) n c) n (u8s l)) (k : Nat) (y : UInt8) :
    (w.setCell ⟨g, k, none⟩ (.int .u8 (y.toNat : Int))).ownsRow base 5 1 (.slice (some ⟨g, 0, none⟩) n c) n (u8s (l.set k y)) := by
  have := (h.stored k (.int .u8 (y.toNat : Int))).1
  have e2 : u8s (l.set k y) = (u8s l).set k (.int .u8 (y.toNat : Int)) := by simp only [u8s, List.map_set]
  rw [e2]
  exact this

/-- Bytes whose first k are turned over. -/
def flip (l : List UInt8) (k : Nat) : List UInt8 := (l.take k).map (· ^^^ 255) ++ l.drop k
theorem flip_length (l : List UInt8) (k : Nat) : (flip l k).length = l.length := by simp [flip]; omega
theorem flip_zero (l : List UInt8) : flip l 0 = l := by simp [flip]
theorem flip_get (l : List UInt8) (k j : Nat) : (flip l k)[j]? = (l[j]?).map (fun b => if j < k then b ^^^ 255 else b) := by
  unfold flip
  rw [List.getElem?_append, List.length_map, List.length_take, List.getElem?_map, List.getElem?_take, List.getElem?_drop]
  by_cases h1 : j < k
  · by_cases h2 : j < l.length
    · rw [if_pos (by omega), if_pos h1]; simp [h1]
    · rw [if_neg (by omega), List.getElem?_eq_none (l := l) (i := j) (by omega), List.getElem?_eq_none (l := l) (by omega)]; rfl
  · rw [if_neg (by omega)]
    by_cases h2 : k ≤ l.length
    · rw [Nat.min_eq_left h2, show k + (j - k) = j by omega]; simp [h1]
    · rw [List.getElem?_eq_none (l := l) (i := j) (by omega), List.getElem?_eq_none (l := l) (by omega)]; rfl
theorem flip_at {l : List UInt8} {k : Nat} {y : UInt8} (h : l[k]? = some y) : (flip l k)[k]? = some y := by rw [flip_get, h]; simp
theorem flip_succ {l : List UInt8} {k : Nat} {y : UInt8} (h : l[k]? = some y) : flip l (k + 1) = (flip l k).set k (y ^^^ 255) := by
  have hl : k < l.length := by
    rcases Nat.lt_or_ge k l.length with h' | h'
    · exact h'
    · rw [List.getElem?_eq_none h'] at h; cases h
  apply List.ext_getElem?
  intro j
  rw [flip_get, List.getElem?_set, flip_get]
  by_cases e : k = j
  · subst e
    rw [if_pos rfl, if_pos (by rw [flip_length]; exact hl), h]; simp
  · rw [if_neg e]
    have e' : (j < k + 1) ↔ (j < k) := by omega
    simp only [e']
theorem xor255 (y : UInt8) : bits BinOp.xor IntKind.u8 (y.toNat : Int) 255 = (((y ^^^ 255).toNat : Nat) : Int) := xor8 y 255

/-- A string of these bytes. -/
def bstr (l : List UInt8) : ByteArray := ⟨l.toArray⟩
theorem bstr_toList (l : List UInt8) : (bstr l).toList = l := by rw [ByteArray.toList_eq]; rfl
theorem bstr_inj {l m : List UInt8} (h : bstr l = bstr m) : l = m := by rw [← bstr_toList l, h, bstr_toList]
theorem bstr_size (l : List UInt8) : (bstr l).size = l.length := by simp [bstr, ByteArray.size]
theorem str_run {P : Program} {w : World} {S : Nat → Prop} {src dst e : TypeId} {A : Option Addr} {n c : Nat} {l : List UInt8} (hs : P.underlying src = some (.slice e)) (he : P.underlying e = some (.int .u8)) (hd : P.underlying dst = some .string)
    (hn : n = l.length) (hsee : Sees w S A (u8s l)) (hA : A = none → c = 0) (hc : n ≤ c) : (convert src dst (.slice A n c)).run P w = .ok (.string (bstr l)) w := by
  have e1 : bstr l = strOfNums (l.map fun b => (b.toNat : Int)) := by
    unfold bstr strOfNums
    simp [Function.comp_def]
  cases A with
  | none =>
    have h0 : l = [] := List.eq_nil_of_length_eq_zero (by have := hA rfl; omega)
    rw [run_convert_bytes_nil w src e hs he n c dst hd, h0]
    rfl
  | some ad =>
    have hl : (loadCells ad n).run P w = .ok (u8s l).toArray w := by
      have := run_loadCells_list (P := P) w ad (u8s l) (fun j v hj => by
        rcases hsee with h | ⟨a', ha, _, hx⟩
        · rw [h] at hj; simp at hj
        · cases ha; exact hx j v hj)
      simpa [hn] using this
    have e2 : u8s l = (l.map fun b => (b.toNat : Int)).map (Value.int .u8) := by simp [u8s, Function.comp_def]
    rw [run_convert_bytes_string w src dst e _ n c hs he hd, run_bytesToString w _ n c (l.map fun b => (b.toNat : Int)) (by rw [← e2]; exact hl), foldl_push_bytes, e1]
    simp [strOfNums, ByteArray.empty, ByteArray.emptyWithCapacity]
    rfl

theorem or64 (a b : Nat) (ha : a < 9223372036854775808) (hb : b < 9223372036854775808) : bits BinOp.or IntKind.i64 (a : Int) (b : Int) = ((a ||| b : Nat) : Int) := by
  have hx : a ||| b < 2 ^ 63 := Nat.or_lt_two_pow (by omega) (by omega)
  have e : ∀ n : Nat, n < 9223372036854775808 → (BitVec.ofInt 64 (n : Int)).toNat = n := fun n hn => by
    rw [BitVec.ofInt_natCast, BitVec.toNat_ofNat]; exact Nat.mod_eq_of_lt (by omega)
  show IntKind.i64.wrap ((BitVec.ofInt 64 (a : Int) ||| BitVec.ofInt 64 (b : Int)).toNat : Int) = _
  rw [BitVec.toNat_or, e a ha, e b hb]
  exact IntWalk.i64_in _ (by omega)
/-- What has no bit in common is added. -/
theorem join64 (k x y : Nat) (hx : x % 2 ^ k = 0) (hy : y < 2 ^ k) (h : x < 9223372036854775808) (h' : y < 9223372036854775808) : bits BinOp.or IntKind.i64 (x : Int) (y : Int) = ((x + y : Nat) : Int) := by
  rw [or64 x y h h', nat_join k x y hx hy]

/-! ### Cuts of a slice -/

section

variable {P : Program}
theorem cut_to (t e : TypeId) (k : IntKind) {i : TypeInfo} (ht : P.underlying t = some (.slice e)) (hi : P.info? e = some i) (A : Option Addr) (n c m : Nat) (hm : m ≤ c) (W : World) :
    (Instr.slice t (.slice A n c) none (some (.int k (m : Int))) none).run P W = .ok (.slice A m c) W := by
  have hel : P.elem t = e := by simp [Program.elem, ht]
  have ha : (A.map fun x => x.add 0) = A := by cases A <;> simp [Addr.add]
  rw [run_slice_h W t A n c (by rw [hel]; exact ht) k (m : Int) (Int.natCast_nonneg _) (by omega), hel]
  simp [sizeOf, typeInfo, hi, sliced, Result.andThen, ha]
theorem cut_from (t e : TypeId) (k : IntKind) {i : TypeInfo} (ht : P.underlying t = some (.slice e)) (hi : P.info? e = some i) (size : Nat) (hsz : i.size = size) (A : Option Addr) (n c m : Nat) (hm : m ≤ n) (W : World) :
    (Instr.slice t (.slice A n c) (some (.int k (m : Int))) none none).run P W = .ok (.slice (if c = m then A else A.map (·.add (m * size))) (n - m) (c - m)) W := by
  have hel : P.elem t = e := by simp [Program.elem, ht]
  rw [run_slice_l W t A n c (by rw [hel]; exact ht) k (m : Int) (Int.natCast_nonneg _) (by omega), hel]
  simp [sizeOf, typeInfo, hi, hsz, sliced, Result.andThen]
theorem cut_mid (t e : TypeId) (k k' : IntKind) {i : TypeInfo} (ht : P.underlying t = some (.slice e)) (hi : P.info? e = some i) (size : Nat) (hsz : i.size = size) (A : Option Addr) (n c a b : Nat) (hab : a ≤ b) (hm : b ≤ c) (W : World) :
    (Instr.slice t (.slice A n c) (some (.int k (a : Int))) (some (.int k' (b : Int))) none).run P W = .ok (.slice (if c = a then A else A.map (·.add (a * size))) (b - a) (c - a)) W := by
  have hel : P.elem t = e := by simp [Program.elem, ht]
  rw [run_slice_lh W t A n c (by rw [hel]; exact ht) k k' (a : Int) (b : Int) (Int.natCast_nonneg _) (by omega) (by omega), hel]
  simp [sizeOf, typeInfo, hi, hsz, sliced, Result.andThen]
end

/-- Some cut whose place does not matter. -/
theorem cut_from' {P : Program} (t e : TypeId) (z : Value) (size bytes : Nat) (ht : P.underlying t = some (.slice e)) (hinfo : (P.info? e).map (fun i => (i.zero, i.size, i.bytes)) = some (some z, size, bytes)) (A : Option Addr) (n c m q : Nat) (hm : m ≤ n) (hq : n - m = q) :
    ∃ A' c', ∀ W : World, (Instr.slice t (.slice A n c) (some (.int .i64 (m : Int))) none none).run P W = .ok (.slice A' q c') W := by
  obtain ⟨i, hi, _, hs, _⟩ := info_parts hinfo
  exact ⟨_, _, fun W => by rw [cut_from t e .i64 ht hi size hs A n c m hm W, hq]⟩
/-- What is seen from the cut on. -/
theorem Sees.cut {w : World} {S : Nat → Prop} {A : Option Addr} {cs : List Value} (h : Sees w S A cs) {c m size : Nat} (hl : cs.length ≤ c * size) (hm : m ≤ c) : Sees w S (if c = m then A else A.map (·.add (m * size))) (cs.drop (m * size)) := by
  split
  · rename_i e
    subst e
    rw [List.drop_eq_nil_of_le hl]
    exact .nil _ _ _
  · exact h.drop _

/-- A region that draws, whose last operations stand behind all others: those others in the text's order, then these; the world has drawn once. -/
theorem wp_tail {P : Program} {id : Nat} {Q : Exit → Act → World → Prop} {a : Act} {w : World} {l : List Oper} (n : Nat) (hm : P.follows .mixedOrders = true) (hB : Region.lexTailB .any l.toArray n = true)
    (h : wpStill P l.toArray w.drew (fun a' => wpList P l.toArray Q (l.drop n) a' w.drew) (l.take n) a) : (Code.region id l.toArray true).wp P Q a w := wp_region_still_tail n hm hB h

/-- A guard: the operation that writes the slot N. -/
theorem at_dst {P : Program} {ops : Array Oper} {rest : List Oper} {o : Oper} {a : Act} {Q : Exit → Act → World → Prop} {w : World} {N : Tmp} (_ : o.dst = some N) (h : wpList P ops Q (o :: rest) a w) : wpList P ops Q (o :: rest) a w := h

/-! ### append as one law: onto a row of one's own, from cells that are seen -/

section

variable {P : Program} {ops : Array Oper} {rest : List Oper} {o : Oper} {a : Act} {Q : Exit → Act → World → Prop}
theorem app_run (w : World) (t ty e : TypeId) (z : Value) (size bytes : Nat) (ht : P.underlying t = some (.slice e))
    (hinfo : (P.info? e).map (fun i => (i.zero, i.size, i.bytes)) = some (some z, size, bytes)) (hzs : z.cells.size = size) (hsz : 0 < size) (hb0 : 0 < bytes)
    (v : Value) (n : Nat) (xs : List Value) (hown : w.ownsRow 0 e size v n xs)
    (A : Option Addr) (m c : Nat) (news : List Value) (S : Nat → Prop) (hA : A = none → c = 0) (hmc : m ≤ c) (hl : news.length = m * size) (hsee : Sees w S A news) (h1 : ∀ u ∈ news, u.oneCell' = true)
    (hbytes : (n + m) * bytes ≤ 140737488355328) :
    ∃ v' w', (Builtin.append_ #[t, t] ty #[v, .slice A m c]).run P w = .ok v' w' ∧ w'.ownsRow 0 e size v' (n + m) (xs ++ news) ∧ Chg (fun k => v.ownBlock = some k) w w' ∧ (∀ k, v'.ownBlock = some k → v.ownBlock = some k ∨ w.heap.size ≤ k) := by
  obtain ⟨i, hi, hz0, hz1, hz2⟩ := info_parts hinfo
  have hnm : n + m ≤ 140737488355328 := Nat.le_trans (Nat.le_mul_of_pos_right _ hb0) hbytes
  cases A with
  | none =>
    have hc := hA rfl
    subst hc
    have hm : m = 0 := by omega
    subst hm
    have hn : news = [] := List.eq_nil_of_length_eq_zero (by simpa using hl)
    subst hn
    exact ⟨v, w, run_append_owned_none w 0 t ty e i size ht hi v n xs hown, by simpa using hown, Chg.refl _ _, fun k hk => .inl hk⟩
  | some ad =>
    have hnews : ∀ j u, news[j]? = some u → w.cell? (ad.add j) = some u := by
      rcases hsee with h | ⟨a', ha, _, hx⟩
      · intro j u hj; rw [h] at hj; simp at hj
      · cases ha; exact hx
    obtain ⟨v', w', hr, h2, h3, _, h5⟩ := run_append_own_at (P := P) w 0 t ty e i z size bytes ht hi hz0 hz1 hz2 hzs hsz v n xs hown ad m c news hl hnews h1 (by simp only [maxLen]; omega) hbytes (Nat.zero_le _)
    refine ⟨v', w', hr, h2, (Chg.refl _ w).grown h3 (fun k hk _ => hk), fun k hk => ?_⟩
    rcases h5 with h5 | h5
    · exact .inl (h5 ▸ hk)
    · rw [h5] at hk
      injection hk with hk
      exact .inr (by omega)
theorem app_list (w : World) (hgd : o.guard = none) (s x : Operand) (t e : TypeId) (z : Value) (size bytes : Nat)
    (ho : o.op = .call { callee := .builtin .append, args := #[s, x], argTypes := #[t, t] }) (ht : P.underlying t = some (.slice e))
    (hinfo : (P.info? e).map (fun i => (i.zero, i.size, i.bytes)) = some (some z, size, bytes)) (hzs : z.cells.size = size) (hsz : 0 < size) (hb0 : 0 < bytes)
    (v : Value) (n : Nat) (xs : List Value) (hs : a.eval s = v) (hown : w.ownsRow 0 e size v n xs)
    (A : Option Addr) (m c : Nat) (news : List Value) (S : Nat → Prop) (hx : a.eval x = .slice A m c) (hA : A = none → c = 0) (hmc : m ≤ c) (hl : news.length = m * size) (hsee : Sees w S A news) (h1 : ∀ u ∈ news, u.oneCell' = true)
    (hbytes : (n + m) * bytes ≤ 140737488355328)
    (h : ∀ A' c' w', w'.ownsRow 0 e size (.slice A' (n + m) c') (n + m) (xs ++ news) → Chg (fun k => v.ownBlock = some k) w w' → (∀ k, (Value.slice A' (n + m) c').ownBlock = some k → v.ownBlock = some k ∨ w.heap.size ≤ k) → wpList P ops Q rest (a.put o.dst (.slice A' (n + m) c')) w') :
    wpList P ops Q (o :: rest) a w := by
  refine wpList_plain hgd fun K hK => ?_
  obtain ⟨v', w', hr, h2, h3, h4⟩ := app_run (P := P) w t o.type e z size bytes ht hinfo hzs hsz hb0 v n xs hown A m c news S hA hmc hl hsee h1 hbytes
  unfold Oper.wp execOp
  simp only [ho, resolve, invoke, builtin, Sem.run_bind, Sem.run_pure, Result.andThen_ok, List.map_toArray, List.map_cons, List.map_nil, hs, hx, hr]
  obtain ⟨A', c', rfl, _⟩ := own_sees h2
  exact hK _ _ (h A' c' w' h2 h3 h4)
theorem app_step {E : Prop} (w : World) {K : Act → World → Prop} (hgd : o.guard = none) (s x : Operand) (t e : TypeId) (z : Value) (size bytes : Nat)
    (ho : o.op = .call { callee := .builtin .append, args := #[s, x], argTypes := #[t, t] }) (ht : P.underlying t = some (.slice e))
    (hinfo : (P.info? e).map (fun i => (i.zero, i.size, i.bytes)) = some (some z, size, bytes)) (hzs : z.cells.size = size) (hsz : 0 < size) (hb0 : 0 < bytes)
    (v : Value) (n : Nat) (xs : List Value) (hs : a.eval s = v) (hown : w.ownsRow 0 e size v n xs)
    (A : Option Addr) (m c : Nat) (news : List Value) (S : Nat → Prop) (hx : a.eval x = .slice A m c) (hA : A = none → c = 0) (hmc : m ≤ c) (hl : news.length = m * size) (hsee : Sees w S A news) (h1 : ∀ u ∈ news, u.oneCell' = true)
    (hbytes : (n + m) * bytes ≤ 140737488355328)
    (h : ∀ A' c' w', w'.ownsRow 0 e size (.slice A' (n + m) c') (n + m) (xs ++ news) → Chg (fun k => v.ownBlock = some k) w w' → (∀ k, (Value.slice A' (n + m) c').ownBlock = some k → v.ownBlock = some k ∨ w.heap.size ≤ k) → K (a.put o.dst (.slice A' (n + m) c')) w') :
    if Region.wanted o (yielded ops a.tmps) = true then Oper.wp P o a w K Q else E := by
  have hw : Region.wanted o (yielded ops a.tmps) = true := by simp [Region.wanted, hgd]
  rw [if_pos hw]
  obtain ⟨v', w', hr, h2, h3, h4⟩ := app_run (P := P) w t o.type e z size bytes ht hinfo hzs hsz hb0 v n xs hown A m c news S hA hmc hl hsee h1 hbytes
  unfold Oper.wp execOp
  simp only [ho, resolve, invoke, builtin, Sem.run_bind, Sem.run_pure, Result.andThen_ok, List.map_toArray, List.map_cons, List.map_nil, hs, hx, hr]
  obtain ⟨A', c', rfl, _⟩ := own_sees h2
  exact h A' c' w' h2 h3 h4
end

/-! ### make([]T, n), a cell an element -/
theorem make_run {P : Program} (t e : TypeId) (z : Value) (bytes : Nat) (ht : P.underlying t = some (.slice e)) (hinfo : (P.info? e).map (fun i => (i.zero, i.size, i.bytes)) = some (some z, 1, bytes)) (hz1 : z.cells = #[z]) (hb0 : 0 < bytes)
    (m : Nat) (hn : m * bytes ≤ 281474976710656) (W : World) :
    (Instr.makeSlice t (.int .i64 (m : Int)) (.int .i64 (m : Int))).run P W = .ok (.slice (some ⟨W.heap.size, 0, none⟩) m m) (W.alloc (.cells (madeCells #[z] m) e)) := by
  have hm : m ≤ 281474976710656 := Nat.le_trans (Nat.le_mul_of_pos_right _ hb0) hn
  exact run_make_row' t e z bytes ht hinfo hz1 .i64 .i64 m (by rw [Nat.mul_comm]; exact hn) (by omega) W
theorem own_made (W : World) (e : TypeId) (z : Value) (m : Nat) (hm : m ≤ 281474976710656) :
    (W.alloc (.cells (madeCells #[z] m) e)).ownsRow 0 e 1 (.slice (some ⟨W.heap.size, 0, none⟩) m m) m (List.replicate m z) := by
  have := World.ownsRow_lit (base := 0) (e := e) (size := 1) W (madeCells #[z] m) m (Nat.zero_le _) (by simp [maxLen]; omega) (by simp [size_madeCells])
  rwa [toList_madeCells_one] at this

/-! ### copy over the beginning of a row of one's own -/
theorem setCells_chg (g : Nat) : ∀ (vs : List Value) (o : Nat) (w : World), Chg (fun k => k = g) w (w.setCells g o vs)
  | [], _, _ => Chg.refl _ _
  | v :: vs, o, w => ((Chg.refl (fun k => k = g) w).set (p := ⟨g, o, none⟩) (fun _ => rfl) v).trans (setCells_chg g vs (o + 1) _) (fun _ h _ => h)
theorem setCells_row {g : Nat} {e : TypeId} : ∀ (vs : List Value) (o : Nat) (w : World) (cur : Array Value), w.heap[g]? = some (.cells cur e (0, 0)) → o + vs.length ≤ cur.size →
    ∃ cur', (w.setCells g o vs).heap[g]? = some (.cells cur' e (0, 0)) ∧ cur'.toList = cur.toList.take o ++ vs ++ cur.toList.drop (o + vs.length)
  | [], o, w, cur, h, _ => ⟨cur, h, by simp⟩
  | v :: vs, o, w, cur, h, hl => by
    simp only [List.length_cons] at hl
    obtain ⟨cur', h1, h2⟩ := setCells_row vs (o + 1) (w.setCell ⟨g, o, none⟩ v) (cur.setIfInBounds o v) (blk_set h o v) (by simp; omega)
    refine ⟨cur', h1, ?_⟩
    rw [h2, Array.toList_setIfInBounds]
    apply List.ext_getElem?
    intro j
    simp only [List.getElem?_append, List.getElem?_take, List.getElem?_drop, List.length_append, List.length_take, List.length_set, List.length_cons, Array.length_toList, List.getElem?_set, List.getElem?_cons]
    have hs : cur.toList.length = cur.size := by simp
    rw [Nat.min_eq_left (by omega : o + 1 ≤ cur.size), Nat.min_eq_left (by omega : o ≤ cur.size)]
    by_cases h1 : j < o
    · have : ¬ o = j := by omega
      have h3 : j < o + 1 := by omega
      have h4 : j < o + 1 + vs.length := by omega
      have h5 : j < o + (vs.length + 1) := by omega
      simp [h1, this, h3, h4, h5]
    · by_cases h2 : j = o
      · subst h2
        have h4 : j < j + 1 + vs.length := by omega
        have h6 : j < cur.size := by omega
        simp [h4, h6]
      · have h3 : ¬ j < o + 1 := by omega
        have h7 : ¬ j - o = 0 := by omega
        by_cases h4 : j < o + 1 + vs.length
        · have h5 : j < o + (vs.length + 1) := by omega
          have h8 : j - (o + 1) = j - o - 1 := by omega
          simp [h1, h3, h4, h5, h7, h8]
        · have h5 : ¬ j < o + (vs.length + 1) := by omega
          have h8 : ¬ o = o + 1 + vs.length + (j - (o + 1 + vs.length)) := by omega
          simp [h4, h5, h8]
          congr 1
          omega
section

variable {P : Program} {ops : Array Oper} {rest : List Oper} {o : Oper} {a : Act} {Q : Exit → Act → World → Prop}

/-- copy(v, x), x as long as v: v holds x's cells. -/
theorem copy_list (w : World) (hgd : o.guard = none) (s x : Operand) (t e : TypeId)
    (ho : o.op = .call { callee := .builtin .copy, args := #[s, x], argTypes := #[t, t] }) (ht : P.underlying t = some (.slice e)) (hsz : (P.info? e).map (·.size) = some 1)
    (g n c : Nat) (xs : List Value) (hs : a.eval s = .slice (some ⟨g, 0, none⟩) n c) (hown : w.ownsRow 0 e 1 (.slice (some ⟨g, 0, none⟩) n c) n xs)
    (A : Option Addr) (c' : Nat) (news : List Value) (S : Nat → Prop) (hx : a.eval x = .slice A n c') (hl : news.length = n) (hsee : Sees w S A news) (h1 : ∀ u ∈ news, u.oneCell' = true)
    (h : ∀ w', w'.ownsRow 0 e 1 (.slice (some ⟨g, 0, none⟩) n c) n news → Chg (fun k => k = g) w w' → wpList P ops Q rest (a.put o.dst (goInt n)) w') :
    wpList P ops Q (o :: rest) a w := by
  refine wpList_plain hgd fun K hK => ?_
  have hrow := hown
  rcases hrow with ⟨hxl, h2 | ⟨g', cap, cur, hv, hg, hh, hn, hm, hc, htk⟩⟩
  · cases h2.1
  · injection hv with hv1 hv2 hv3
    injection hv1 with hv1
    injection hv1 with hv1
    subst hv1
    subst hv3
    have hcl : ∀ j, j < news.length → (w.cell? ⟨g, 0 + j, none⟩).isSome = true := fun j hj => by
      rw [Nat.zero_add, cellAt hh]
      simp
      omega
    have hfr : ∀ j, j < news.length → w.frozen? ⟨g, 0 + j, none⟩ = false := fun j _ => freeAt hh _
    have hrun : (Builtin.copy_ #[t, t] o.type #[.slice (some ⟨g, 0, none⟩) n c, .slice A n c']).run P w = .ok (goInt n) (w.setCells g 0 news) := by
      rcases hsee with rfl | ⟨ad, rfl, _, hx2⟩
      · have hn0 : n = 0 := by simpa using hl.symm
        subst hn0
        have := run_copy_none (P := P) w t t o.type e (some ⟨g, 0, none⟩) A 0 c 0 c' ht hsz (by simp)
        simpa [World.setCells] using this
      · have := run_copy_cells (P := P) w t t o.type e g 0 n c ad n c' news ht hsz (by rw [hl]; simp) hx2 hcl hfr h1
        rw [hl] at this
        exact this
    obtain ⟨cur', hb, ht'⟩ := setCells_row news 0 w cur hh (by rw [hl]; omega)
    unfold Oper.wp execOp
    simp only [ho, resolve, invoke, builtin, Sem.run_bind, Sem.run_pure, Result.andThen_ok, List.map_toArray, List.map_cons, List.map_nil, hs, hx, hrun]
    refine hK _ _ (h _ ⟨by simp [hl], .inr ⟨g, c, cur', rfl, Nat.zero_le _, hb, hn, hm, ?_, ?_⟩⟩ (setCells_chg g news 0 w))
    · rw [← Array.length_toList, ht']
      simp
      omega
    · rw [ht']
      simp [hl]
end

end Go.Proofs.Ytcmfgijdelaelaa.C
