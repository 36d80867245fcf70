/- Texts of this claim, one behind the other: Core, Ty, Bar, Vec, StrApp, PackM, PackD, PackP, PackW, PackN, PackR. -/
import Derived.Test.YtfpjickdkkhndaaProg
import Derived.Below
import Derived.Deep.Draws
import Derived.Deep.AppendLies
import Derived.Maps.AppendAt
import Derived.OwnWalk
import Derived.Laws.BytesArg
import Derived.Laws.MakeOwn
import Derived.Laws.OwnMore
import Derived.Deep.OwnRows
import Derived.Tactics
import Derived.Lib.ConvBytes
import Derived.Laws.Slices
import Derived.WalkKit
import Derived.KernelRfl
import Derived.RowKit3
import Derived.Deep.LoopGhost
import Derived.Deep.QuietTactic
import Derived.BigQuiet
import Derived.WideLaws
import Derived.Deep.DeepCutAuto
import Derived.Deep.CutBlock
import Derived.Deep.RegionHeld3
import Derived.Deep.RegionLaw
import Derived.StillTailTactics
import Derived.Laws.Rows
import Derived.Lib.AppendStr
import Derived.ArgAppend
import Derived.Laws.IdiomCopy
import Derived.OrdersHeld
import Derived.Laws.BitsLemmas
import Derived.Laws.BitsAllLaws
import Derived.WalkSpells
import Derived.Lib.LazyBuf
import Derived.RowKit
import Derived.ProofKit
import Derived.Deep.Slices
import Derived.IntWalk

/- Words of memory for this seat's walks: what may have changed (Chg), what is seen (Sees), and append, clone and copy as laws over them. -/

namespace Go.Proofs.Ytfpjickdkkhndaa.C

set_option linter.unusedVariables false

set_option linter.unusedSimpArgs false

open Go.RowKit

theorem hid {p : Prop} (h : p) : Hid p := h

/-- Behind a step of what may write the blocks S: all other old blocks are as they were. -/
structure Chg (S : Nat → Prop) (w w' : World) : Prop where
  os : w'.os = w.os
  tape : w'.tape = w.tape
  output : w'.output = w.output
  size : w.heap.size ≤ w'.heap.size
  block : ∀ k, k < w.heap.size → ¬ S k → w'.heap[k]? = w.heap[k]?

theorem Chg.refl (S : Nat → Prop) (w : World) : Chg S w w := ⟨rfl, rfl, rfl, Nat.le_refl _, fun _ _ _ => rfl⟩
theorem Chg.trans {S S' : Nat → Prop} {a b c : World} (h : Chg S a b) (k : Chg S' b c) (hS : ∀ i, S' i → i < a.heap.size → S i) : Chg S a c :=
  ⟨k.os.trans h.os, k.tape.trans h.tape, k.output.trans h.output, Nat.le_trans h.size k.size,
   fun i hi hn => (k.block i (Nat.lt_of_lt_of_le hi h.size) (fun hs => hn (hS i hs hi))).trans (h.block i hi hn)⟩
theorem Chg.mono {S S' : Nat → Prop} {a b : World} (h : Chg S a b) (hS : ∀ i, S i → i < a.heap.size → S' i) : Chg S' a b :=
  ⟨h.os, h.tape, h.output, h.size, fun i hi hn => h.block i hi (fun hs => hn (hS i hs hi))⟩
theorem Chg.drew {S : Nat → Prop} {a b : World} (h : Chg S a b) : Chg S a b.drew := ⟨h.os, h.tape, h.output, h.size, h.block⟩
theorem Chg.drewN {S : Nat → Prop} {a b : World} (h : Chg S a b) (n : Nat) : Chg S a (b.drewN n) := ⟨h.os, h.tape, h.output, h.size, h.block⟩
theorem Chg.alloc {S : Nat → Prop} {a b : World} (h : Chg S a b) (o : Obj) : Chg S a (b.alloc o) :=
  ⟨h.os, h.tape, h.output, Nat.le_trans h.size (by simp), fun i hi hn => (Below.heap_alloc _ _ _ (Nat.lt_of_lt_of_le hi h.size)).trans (h.block i hi hn)⟩
theorem Chg.set {S : Nat → Prop} {a b : World} (h : Chg S a b) {p : Addr} (hp : p.block < a.heap.size → S p.block) (v : Value) : Chg S a (b.setCell p v) :=
  ⟨h.os, h.tape, h.output, by simpa [World.setCell] using h.size, fun i hi hn => (Below.heap_setCell _ _ _ _ (fun e => hn (by subst e; exact hp hi))).trans (h.block i hi hn)⟩
theorem Chg.grown {S : Nat → Prop} {a b c : World} (h : Chg S a b) {row : Option Nat} (hg : b.grownBy c row) (hr : ∀ k, row = some k → k < a.heap.size → S k) : Chg S a c :=
  ⟨hg.os.trans h.os, hg.tape.trans h.tape, hg.output.trans h.output, Nat.le_trans h.size hg.size,
   fun i hi hn => (hg.block i (Nat.lt_of_lt_of_le hi h.size) (fun e => hn (hr i e.symm hi))).trans (h.block i hi hn)⟩
theorem Chg.below {S : Nat → Prop} {a b : World} {B : Nat} (h : Chg S a b) (hB : B ≤ a.heap.size) (hS : ∀ k, S k → B ≤ k) : Below B a b :=
  ⟨h.os, h.tape, h.output, h.size, fun k hk => h.block k (Nat.lt_of_lt_of_le hk hB) (fun hs => by have := hS k hs; omega)⟩
theorem Chg.of_below {a b : World} {B : Nat} (h : Below B a b) : Chg (fun k => B ≤ k) a b := ⟨h.os, h.tape, h.output, h.size, fun k _ hn => h.block k (by omega)⟩
theorem below_drewN {B : Nat} {a b : World} (h : Below B a b) (n : Nat) : Below B a (b.drewN n) := ⟨h.os, h.tape, h.output, h.size, h.block⟩
theorem lt_of_blk {w : World} {g : Nat} {o : Obj} (h : w.heap[g]? = some o) : g < w.heap.size := (Array.getElem?_eq_some_iff.1 h).1
theorem Chg.blk {S : Nat → Prop} {a b : World} (h : Chg S a b) {g : Nat} {o : Obj} (hg : a.heap[g]? = some o) (hn : ¬ S g) : b.heap[g]? = some o := (h.block g (lt_of_blk hg) hn).trans hg
theorem Chg.cell {S : Nat → Prop} {a b : World} (h : Chg S a b) {p : Addr} {v : Value} (hc : a.cell? p = some v) (hn : ¬ S p.block) : b.cell? p = some v :=
  (World.cell?_of_block (h.block p.block (World.block_lt_of_cell? a p hc) hn)).trans hc
theorem Chg.own {S : Nat → Prop} {a b : World} (h : Chg S a b) {base e size n : Nat} {v : Value} {xs : List Value} (ho : a.ownsRow base e size v n xs) (hn : ∀ k, v.ownBlock = some k → ¬ S k) : b.ownsRow base e size v n xs := by
  obtain ⟨h1, h2⟩ := ho
  refine ⟨h1, ?_⟩
  rcases h2 with h2 | ⟨g, cap, cur, hv, hg, hh, r⟩
  · exact .inl h2
  · exact .inr ⟨g, cap, cur, hv, hg, h.blk hh (hn g (by simp [hv, Value.ownBlock])), r⟩

/-- The cells from A on, as far as cs goes; they lie in a block of S. -/
def Sees (w : World) (S : Nat → Prop) (A : Option Addr) (cs : List Value) : Prop :=
  cs = [] ∨ ∃ a, A = some a ∧ S a.block ∧ ∀ j u, cs[j]? = some u → w.cell? (a.add j) = some u
theorem Sees.nil (w : World) (S : Nat → Prop) (A : Option Addr) : Sees w S A [] := .inl rfl
theorem add_block (a : Addr) (i : Nat) : (a.add i).block = a.block := by unfold Addr.add; split <;> rfl
theorem add_add (a : Addr) (i j : Nat) : (a.add i).add j = a.add (i + j) := by
  unfold Addr.add
  by_cases hi : i = 0 <;> by_cases hj : j = 0 <;> simp [hi, hj, Nat.add_assoc]
theorem add_at (g o j : Nat) : (⟨g, o, none⟩ : Addr).add j = ⟨g, o + j, none⟩ := by unfold Addr.add; split <;> simp_all
theorem Sees.chg {w w' : World} {S M : Nat → Prop} {A : Option Addr} {cs : List Value} (h : Sees w S A cs) (hc : Chg M w w') (hd : ∀ k, S k → ¬ M k) : Sees w' S A cs := by
  rcases h with h | ⟨a, hA, hS, hx⟩
  · exact .inl h
  · exact .inr ⟨a, hA, hS, fun j u hj => hc.cell (hx j u hj) (by rw [add_block]; exact hd _ hS)⟩
theorem Sees.mono {w : World} {S S' : Nat → Prop} {A : Option Addr} {cs : List Value} (h : Sees w S A cs) (hS : ∀ k, S k → S' k) : Sees w S' A cs := by
  rcases h with h | ⟨a, hA, hs, hx⟩
  · exact .inl h
  · exact .inr ⟨a, hA, hS _ hs, hx⟩
theorem Sees.bound {w : World} {S : Nat → Prop} {A : Option Addr} {cs : List Value} (h : Sees w S A cs) : Sees w (fun k => S k ∧ k < w.heap.size) A cs := by
  rcases h with h | ⟨a, hA, hs, hx⟩
  · exact .inl h
  · cases cs with
    | nil => exact .inl rfl
    | cons u cs =>
      refine .inr ⟨a, hA, ⟨hs, ?_⟩, hx⟩
      have := World.block_lt_of_cell? w _ (hx 0 u rfl)
      rwa [add_block] at this
theorem Sees.take {w : World} {S : Nat → Prop} {A : Option Addr} {cs : List Value} (h : Sees w S A cs) (n : Nat) : Sees w S A (cs.take n) := by
  rcases h with h | ⟨a, hA, hs, hx⟩
  · exact .inl (by rw [h]; simp)
  · exact .inr ⟨a, hA, hs, fun j u hj => hx j u (by
      rw [List.getElem?_take] at hj
      split at hj
      · exact hj
      · cases hj)⟩
theorem Sees.drop {w : World} {S : Nat → Prop} {A : Option Addr} {cs : List Value} (h : Sees w S A cs) (n : Nat) : Sees w S (A.map (·.add n)) (cs.drop n) := by
  rcases h with h | ⟨a, hA, hs, hx⟩
  · exact .inl (by rw [h]; simp)
  · refine .inr ⟨a.add n, by rw [hA]; rfl, by rw [add_block]; exact hs, fun j u hj => ?_⟩
    rw [C.add_add]
    exact hx _ u (by rw [List.getElem?_drop] at hj; exact hj)

theorem own_sees {w : World} {base e size n : Nat} {v : Value} {xs : List Value} (h : w.ownsRow base e size v n xs) :
    ∃ A c, v = .slice A n c ∧ n ≤ c ∧ c ≤ maxLen ∧ (A = none → c = 0) ∧ Sees w (fun k => v.ownBlock = some k) A xs := by
  rcases h.2 with ⟨rfl, rfl⟩ | ⟨g, cap, cur, rfl, hg, hh, hn, hm, hc, ht⟩
  · exact ⟨none, 0, rfl, Nat.le_refl _, by simp [maxLen], fun _ => rfl, .inl (List.eq_nil_of_length_eq_zero (by simpa using h.1))⟩
  · refine ⟨_, _, rfl, hn, hm, by simp, .inr ⟨_, rfl, rfl, fun j u hj => ?_⟩⟩
    rw [add_at, Nat.zero_add]
    have hl : j < xs.length := by
      rcases Nat.lt_or_ge j xs.length with hl | hl
      · exact hl
      · rw [List.getElem?_eq_none hl] at hj; cases hj
    rw [h.cellAt j (by rw [← h.1]; exact hl)]
    exact hj
theorem own_lt {w : World} {base e size n : Nat} {v : Value} {xs : List Value} (h : w.ownsRow base e size v n xs) (k : Nat) (hk : v.ownBlock = some k) : k < w.heap.size := by
  rcases h.2 with ⟨rfl, _⟩ | ⟨g, cap, cur, rfl, hg, hh, _⟩
  · simp [Value.ownBlock] at hk
  · have : g = k := by simpa [Value.ownBlock] using hk
    subst this
    exact lt_of_blk hh
theorem own_type {w : World} {base e size n : Nat} {v : Value} {xs : List Value} (h : w.ownsRow base e size v n xs) (k : Nat) (hk : v.ownBlock = some k) : ∃ cur, w.heap[k]? = some (.cells cur e (0, 0)) := by
  rcases h.2 with ⟨rfl, _⟩ | ⟨g, cap, cur, rfl, hg, hh, _⟩
  · simp [Value.ownBlock] at hk
  · have : g = k := by simpa [Value.ownBlock] using hk
    subst this
    exact ⟨cur, hh⟩
theorem own_ne {w : World} {base e size n : Nat} {v : Value} {xs : List Value} (h : w.ownsRow base e size v n xs) {g t : Nat} {cs : Array Value} {m : Nat × Nat} (hb : w.heap[g]? = some (.cells cs t m)) (hne : e ≠ t) : v.ownBlock ≠ some g := by
  intro hk
  obtain ⟨cur, hc⟩ := own_type h g hk
  rw [hc] at hb
  injection hb with hb
  injection hb with _ hb _
  exact hne hb
theorem own_base0 {w : World} {base e size n : Nat} {v : Value} {xs : List Value} (h : w.ownsRow base e size v n xs) : w.ownsRow 0 e size v n xs := by
  obtain ⟨h1, h2⟩ := h
  refine ⟨h1, ?_⟩
  rcases h2 with h2 | ⟨g, cap, cur, hv, hg, r⟩
  · exact .inl h2
  · exact .inr ⟨g, cap, cur, hv, Nat.zero_le _, r⟩
theorem own_nil (w : World) (e size : Nat) : w.ownsRow 0 e size (.slice none 0 0) 0 [] := ⟨by simp, .inl ⟨rfl, rfl⟩⟩

/-! ### max, min -/
def mx (a b : Int) : Int := if a < b then b else a
def mn (a b : Int) : Int := if b < a then b else a
theorem mx_eq (a b : Int) : mx a b = max a b := by unfold mx; split <;> omega
theorem mn_eq (a b : Int) : mn a b = min a b := by unfold mn; split <;> omega
theorem max2_int (k k' : IntKind) (x y : Int) : Builtin.max2 (.int k x) (.int k' y) = pure (.int k (mx x y)) := by simp only [Builtin.max2, gt_iff_lt, mx]
theorem min2_int (k k' : IntKind) (x y : Int) : Builtin.min2 (.int k x) (.int k' y) = pure (.int k (mn x y)) := by simp only [Builtin.min2, mn]
theorem max_two (ats : Array TypeId) (ty : TypeId) (a b : Value) : Builtin.max_ ats ty #[a, b] = (Builtin.max2 a b >>= fun s => pure s) := by simp only [Builtin.max_, List.foldlM_cons, List.foldlM_nil]
theorem min_two (ats : Array TypeId) (ty : TypeId) (a b : Value) : Builtin.min_ ats ty #[a, b] = (Builtin.min2 a b >>= fun s => pure s) := by simp only [Builtin.min_, List.foldlM_cons, List.foldlM_nil]

/-! ### Blocks of cells -/
theorem cellAt {w : World} {g : Nat} {t : TypeId} {cs : Array Value} {m : Nat × Nat} (h : w.heap[g]? = some (.cells cs t m)) (i : Nat) : w.cell? ⟨g, i, none⟩ = cs[i]? := cell_of_row w g i cs t m h
theorem freeAt {w : World} {g : Nat} {t : TypeId} {cs : Array Value} (h : w.heap[g]? = some (.cells cs t (0, 0))) (i : Nat) : w.frozen? ⟨g, i, none⟩ = false := by simp [World.frozen?, h]
theorem blk_set {w : World} {g : Nat} {t : TypeId} {cs : Array Value} (h : w.heap[g]? = some (.cells cs t (0, 0))) (i : Nat) (u : Value) : (w.setCell ⟨g, i, none⟩ u).heap[g]? = some (.cells (cs.setIfInBounds i u) t (0, 0)) := by
  simp only [World.setCell, Array.getElem?_modify, h, Option.map_some]
  simp
theorem blk_far {w : World} {g : Nat} {o : Obj} (h : w.heap[g]? = some o) {p : Addr} (hp : g ≠ p.block) (u : Value) : (w.setCell p u).heap[g]? = some o := (Below.heap_setCell w p u g hp).trans h
theorem blk_alloc {w : World} {g : Nat} {o : Obj} (h : w.heap[g]? = some o) (o' : Obj) : (w.alloc o').heap[g]? = some o := (Below.heap_alloc w o' g (lt_of_blk h)).trans h
theorem blk_new (w : World) (o : Obj) : (w.alloc o).heap[w.heap.size]? = some o := heap_alloc_new w o

/-! ### Bytes -/
def u8s (l : List UInt8) : List Value := l.map fun b => .int .u8 (b.toNat : Int)
@[simp] theorem u8s_length (l : List UInt8) : (u8s l).length = l.length := by simp [u8s]
@[simp] theorem u8s_append (l m : List UInt8) : u8s (l ++ m) = u8s l ++ u8s m := by simp [u8s]
theorem u8s_take (l : List UInt8) (n : Nat) : u8s (l.take n) = (u8s l).take n := by simp [u8s, List.map_take]
theorem u8s_drop (l : List UInt8) (n : Nat) : u8s (l.drop n) = (u8s l).drop n := by simp [u8s, List.map_drop]
theorem u8s_one (l : List UInt8) : ∀ u ∈ u8s l, u.oneCell' = true := by
  intro u hu
  simp only [u8s, List.mem_map] at hu
  obtain ⟨b, _, rfl⟩ := hu
  rfl
theorem u8s_at {l : List UInt8} {j : Nat} {b : UInt8} (h : l[j]? = some b) : (u8s l)[j]? = some (.int .u8 (b.toNat : Int)) := by simp [u8s, h]
theorem u8s_get (l : List UInt8) (j : Nat) (h : j < l.length) : (u8s l)[j]? = some (.int .u8 ((l[j]).toNat : Int)) := by simp [u8s, h]

theorem xor8 (y x : UInt8) : bits BinOp.xor IntKind.u8 (y.toNat : Int) (x.toNat : Int) = (((y ^^^ x).toNat : Nat) : Int) := by
  rw [u8_xor_nat _ _ y.toNat_lt x.toNat_lt, UInt8.toNat_xor]

theorem own_at {w : World} {base e size n c : Nat} {A : Option Addr} {xs : List Value} (h : w.ownsRow base e size (.slice A n c) n xs) :
    n ≤ c ∧ c ≤ maxLen ∧ (A = none → c = 0) ∧ Sees w (fun k => (Value.slice A n c).ownBlock = some k) A xs := by
  obtain ⟨A', c', hv, h1, h2, h3, h4⟩ := own_sees h
  injection hv with e1 _ e3
  subst e1
  subst e3
  exact ⟨h1, h2, h3, h4⟩
/-- Where a row of one's own lies, if it holds something. -/
theorem own_form {w : World} {base e size n c : Nat} {A : Option Addr} {xs : List Value} (h : w.ownsRow base e size (.slice A n c) n xs) (hn : 0 < n) : ∃ g, A = some ⟨g, 0, none⟩ ∧ g < w.heap.size := by
  obtain ⟨g, cap, hv, _, hg⟩ := h.form hn
  injection hv with e1 _ _
  exact ⟨g, e1, hg⟩
/-- Bytes of one's own: one that is read, and written. -/
theorem own_u8 {w : World} {base n c g : Nat} {l : List UInt8} (h : w.ownsRow base 5 1 (.slice (some ⟨g, 0, none⟩) n c) n (u8s l)) {k : Nat} {y : UInt8} (hy : l[k]? = some y) :
    w.cell? ⟨g, k, none⟩ = some (.int .u8 (y.toNat : Int)) ∧ w.frozen? ⟨g, k, none⟩ = false := by
  have hl : k < l.length := by
    rcases Nat.lt_or_ge k l.length with h | h
    · exact h
    · rw [List.getElem?_eq_none h] at hy; cases hy
  have hn : l.length = n := by have := h.1; simpa using this
  refine ⟨?_, h.frozenAt k⟩
  rw [h.cellAt k (by omega)]
  exact u8s_at hy
theorem own_u8_set {w : World} {base n c g : Nat} {l : List UInt8} (h : w.ownsRow base 5 1 (.slice (some ⟨g, 0, none⟩) n c) n (u8s l)) (k : Nat) (y : UInt8) :
    (w.setCell ⟨g, k, none⟩ (.int .u8 (y.toNat : Int))).ownsRow base 5 1 (.slice (some ⟨g, 0, none⟩) n c) n (u8s (l.set k y)) := by
  have := (h.stored k (.int .u8 (y.toNat : Int))).1
  have e2 : u8s (l.set k y) = (u8s l).set k (.int .u8 (y.toNat : Int)) := by simp only [u8s, List.map_set]
  rw [e2]
  exact this

/-- Bytes whose first k are turned over. -/
def flip (l : List UInt8) (k : Nat) : List UInt8 := (l.take k).map (· ^^^ 255) ++ l.drop k
theorem flip_length (l : List UInt8) (k : Nat) : (flip l k).length = l.length := by simp [flip]; omega
theorem flip_zero (l : List UInt8) : flip l 0 = l := by simp [flip]
theorem flip_get (l : List UInt8) (k j : Nat) : (flip l k)[j]? = (l[j]?).map (fun b => if j < k then b ^^^ 255 else b) := by
  unfold flip
  rw [List.getElem?_append, List.length_map, List.length_take, List.getElem?_map, List.getElem?_take, List.getElem?_drop]
  by_cases h1 : j < k
  · by_cases h2 : j < l.length
    · rw [if_pos (by omega), if_pos h1]; simp [h1]
    · rw [if_neg (by omega), List.getElem?_eq_none (l := l) (i := j) (by omega), List.getElem?_eq_none (l := l) (by omega)]; rfl
  · rw [if_neg (by omega)]
    by_cases h2 : k ≤ l.length
    · rw [Nat.min_eq_left h2, show k + (j - k) = j by omega]; simp [h1]
    · rw [List.getElem?_eq_none (l := l) (i := j) (by omega), List.getElem?_eq_none (l := l) (by omega)]; rfl
theorem flip_at {l : List UInt8} {k : Nat} {y : UInt8} (h : l[k]? = some y) : (flip l k)[k]? = some y := by rw [flip_get, h]; simp
theorem flip_succ {l : List UInt8} {k : Nat} {y : UInt8} (h : l[k]? = some y) : flip l (k + 1) = (flip l k).set k (y ^^^ 255) := by
  have hl : k < l.length := by
    rcases Nat.lt_or_ge k l.length with h' | h'
    · exact h'
    · rw [List.getElem?_eq_none h'] at h; cases h
  apply List.ext_getElem?
  intro j
  rw [flip_get, List.getElem?_set, flip_get]
  by_cases e : k = j
  · subst e
    rw [if_pos rfl, if_pos (by rw [flip_length]; exact hl), h]; simp
  · rw [if_neg e]
    have e' : (j < k + 1) ↔ (j < k) := by omega
    simp only [e']
theorem xor255 (y : UInt8) : bits BinOp.xor IntKind.u8 (y.toNat : Int) 255 = (((y ^^^ 255).toNat : Nat) : Int) := xor8 y 255

/-- A string of these bytes. -/
def bstr (l : List UInt8) : ByteArray := ⟨l.toArray⟩
theorem bstr_toList (l : List UInt8) : (bstr l).toList = l := by rw [ByteArray.toList_eq]; rfl
theorem bstr_inj {l m : List UInt8} (h : bstr l = bstr m) : l = m := by rw [← bstr_toList l, h, bstr_toList]
theorem bstr_size (l : List UInt8) : (bstr l).size = l.length := by simp [bstr, ByteArray.size]
theorem str_run {P : Program} {w : World} {S : Nat → Prop} {src dst e : TypeId} {A : Option Addr} {n c : Nat} {l : List UInt8} (hs : P.underlying src = some (.slice e)) (he : P.underlying e = some (.int .u8)) (hd : P.underlying dst = some .string)
    (hn : n = l.length) (hsee : Sees w S A (u8s l)) (hA : A = none → c = 0) (hc : n ≤ c) : (convert src dst (.slice A n c)).run P w = .ok (.string (bstr l)) w := by
  have e1 : bstr l = strOfNums (l.map fun b => (b.toNat : Int)) := by
    unfold bstr strOfNums
    simp [Function.comp_def]
  cases A with
  | none =>
    have h0 : l = [] := List.eq_nil_of_length_eq_zero (by have := hA rfl; omega)
    rw [run_convert_bytes_nil w src e hs he n c dst hd, h0]
    rfl
  | some ad =>
    have hl : (loadCells ad n).run P w = .ok (u8s l).toArray w := by
      have := run_loadCells_list (P := P) w ad (u8s l) (fun j v hj => by
        rcases hsee with h | ⟨a', ha, _, hx⟩
        · rw [h] at hj; simp at hj
        · cases ha; exact hx j v hj)
      simpa [hn] using this
    have e2 : u8s l = (l.map fun b => (b.toNat : Int)).map (Value.int .u8) := by simp [u8s, Function.comp_def]
    rw [run_convert_bytes_string w src dst e _ n c hs he hd, run_bytesToString w _ n c (l.map fun b => (b.toNat : Int)) (by rw [← e2]; exact hl), foldl_push_bytes, e1]
    simp [strOfNums, ByteArray.empty, ByteArray.emptyWithCapacity]
    rfl

theorem or64 (a b : Nat) (ha : a < 9223372036854775808) (hb : b < 9223372036854775808) : bits BinOp.or IntKind.i64 (a : Int) (b : Int) = ((a ||| b : Nat) : Int) := by
  have hx : a ||| b < 2 ^ 63 := Nat.or_lt_two_pow (by omega) (by omega)
  have e : ∀ n : Nat, n < 9223372036854775808 → (BitVec.ofInt 64 (n : Int)).toNat = n := fun n hn => by
    rw [BitVec.ofInt_natCast, BitVec.toNat_ofNat]; exact Nat.mod_eq_of_lt (by omega)
  show IntKind.i64.wrap ((BitVec.ofInt 64 (a : Int) ||| BitVec.ofInt 64 (b : Int)).toNat : Int) = _
  rw [BitVec.toNat_or, e a ha, e b hb]
  exact IntWalk.i64_in _ (by omega)
/-- What has no bit in common is added. -/
theorem join64 (k x y : Nat) (hx : x % 2 ^ k = 0) (hy : y < 2 ^ k) (h : x < 9223372036854775808) (h' : y < 9223372036854775808) : bits BinOp.or IntKind.i64 (x : Int) (y : Int) = ((x + y : Nat) : Int) := by
  rw [or64 x y h h', nat_join k x y hx hy]

/-! ### Cuts of a slice -/

section

variable {P : Program}
theorem cut_to (t e : TypeId) (k : IntKind) {i : TypeInfo} (ht : P.underlying t = some (.slice e)) (hi : P.info? e = some i) (A : Option Addr) (n c m : Nat) (hm : m ≤ c) (W : World) :
    (Instr.slice t (.slice A n c) none (some (.int k (m : Int))) none).run P W = .ok (.slice A m c) W := by
  have hel : P.elem t = e := by simp [Program.elem, ht]
  have ha : (A.map fun x => x.add 0) = A := by cases A <;> simp [Addr.add]
  rw [run_slice_h W t A n c (by rw [hel]; exact ht) k (m : Int) (Int.natCast_nonneg _) (by omega), hel]
  simp [sizeOf, typeInfo, hi, sliced, Result.andThen, ha]
theorem cut_from (t e : TypeId) (k : IntKind) {i : TypeInfo} (ht : P.underlying t = some (.slice e)) (hi : P.info? e = some i) (size : Nat) (hsz : i.size = size) (A : Option Addr) (n c m : Nat) (hm : m ≤ n) (W : World) :
    (Instr.slice t (.slice A n c) (some (.int k (m : Int))) none none).run P W = .ok (.slice (if c = m then A else A.map (·.add (m * size))) (n - m) (c - m)) W := by
  have hel : P.elem t = e := by simp [Program.elem, ht]
  rw [run_slice_l W t A n c (by rw [hel]; exact ht) k (m : Int) (Int.natCast_nonneg _) (by omega), hel]
  simp [sizeOf, typeInfo, hi, hsz, sliced, Result.andThen]
theorem cut_mid (t e : TypeId) (k k' : IntKind) {i : TypeInfo} (ht : P.underlying t = some (.slice e)) (hi : P.info? e = some i) (size : Nat) (hsz : i.size = size) (A : Option Addr) (n c a b : Nat) (hab : a ≤ b) (hm : b ≤ c) (W : World) :
    (Instr.slice t (.slice A n c) (some (.int k (a : Int))) (some (.int k' (b : Int))) none).run P W = .ok (.slice (if c = a then A else A.map (·.add (a * size))) (b - a) (c - a)) W := by
  have hel : P.elem t = e := by simp [Program.elem, ht]
  rw [run_slice_lh W t A n c (by rw [hel]; exact ht) k k' (a : Int) (b : Int) (Int.natCast_nonneg _) (by omega) (by omega), hel]
  simp [sizeOf, typeInfo, hi, hsz, sliced, Result.andThen]
end

/-- Some cut whose place does not matter. -/
theorem cut_from' {P : Program} (t e : TypeId) (z : Value) (size bytes : Nat) (ht : P.underlying t = some (.slice e)) (hinfo : (P.info? e).map (fun i => (i.zero, i.size, i.bytes)) = some (some z, size, bytes)) (A : Option Addr) (n c m q : Nat) (hm : m ≤ n) (hq : n - m = q) :
    ∃ A' c', ∀ W : World, (Instr.slice t (.slice A n c) (some (.int .i64 (m : Int))) none none).run P W = .ok (.slice A' q c') W := by
  obtain ⟨i, hi, _, hs, _⟩ := info_parts hinfo
  exact ⟨_, _, fun W => by rw [cut_from t e .i64 ht hi size hs A n c m hm W, hq]⟩
/-- What is seen from the cut on. -/
theorem Sees.cut {w : World} {S : Nat → Prop} {A : Option Addr} {cs : List Value} (h : Sees w S A cs) {c m size : Nat} (hl : cs.length ≤ c * size) (hm : m ≤ c) : Sees w S (if c = m then A else A.map (·.add (m * size))) (cs.drop (m * size)) := by
  split
  · rename_i e
    subst e
    rw [List.drop_eq_nil_of_le hl]
    exact .nil _ _ _
  · exact h.drop _

/-- A region that draws, whose last operations stand behind all others: those others in the text's order, then these; the world has drawn once. -/
theorem wp_tail {P : Program} {id : Nat} {Q : Exit → Act → World → Prop} {a : Act} {w : World} {l : List Oper} (n : Nat) (hm : P.follows .mixedOrders = true) (hB : Region.lexTailB .any l.toArray n = true)
    (h : wpStill P l.toArray w.drew (fun a' => wpList P l.toArray Q (l.drop n) a' w.drew) (l.take n) a) : (Code.region id l.toArray true).wp P Q a w := wp_region_still_tail n hm hB h

/-- A guard: the operation that writes the slot N. -/
theorem at_dst {P : Program} {ops : Array Oper} {rest : List Oper} {o : Oper} {a : Act} {Q : Exit → Act → World → Prop} {w : World} {N : Tmp} (_ : o.dst = some N) (h : wpList P ops Q (o :: rest) a w) : wpList P ops Q (o :: rest) a w := h

/-! ### append as one law: onto a row of one's own, from cells that are seen -/

section

variable {P : Program} {ops : Array Oper} {rest : List Oper} {o : Oper} {a : Act} {Q : Exit → Act → World → Prop}
theorem app_run (w : World) (t ty e : TypeId) (z : Value) (size bytes : Nat) (ht : P.underlying t = some (.slice e))
    (hinfo : (P.info? e).map (fun i => (i.zero, i.size, i.bytes)) = some (some z, size, bytes)) (hzs : z.cells.size = size) (hsz : 0 < size) (hb0 : 0 < bytes)
    (v : Value) (n : Nat) (xs : List Value) (hown : w.ownsRow 0 e size v n xs)
    (A : Option Addr) (m c : Nat) (news : List Value) (S : Nat → Prop) (hA : A = none → c = 0) (hmc : m ≤ c) (hl : news.length = m * size) (hsee : Sees w S A news) (h1 : ∀ u ∈ news, u.oneCell' = true)
    (hbytes : (n + m) * bytes ≤ 140737488355328) :
    ∃ v' w', (Builtin.append_ #[t, t] ty #[v, .slice A m c]).run P w = .ok v' w' ∧ w'.ownsRow 0 e size v' (n + m) (xs ++ news) ∧ Chg (fun k => v.ownBlock = some k) w w' ∧ (∀ k, v'.ownBlock = some k → v.ownBlock = some k ∨ w.heap.size ≤ k) := by
  obtain ⟨i, hi, hz0, hz1, hz2⟩ := info_parts hinfo
  have hnm : n + m ≤ 140737488355328 := Nat.le_trans (Nat.le_mul_of_pos_right _ hb0) hbytes
  cases A with
  | none =>
    have hc := hA rfl
    subst hc
    have hm : m = 0 := by omega
    subst hm
    have hn : news = [] := List.eq_nil_of_length_eq_zero (by simpa using hl)
    subst hn
    exact ⟨v, w, run_append_owned_none w 0 t ty e i size ht hi v n xs hown, by simpa using hown, Chg.refl _ _, fun k hk => .inl hk⟩
  | some ad =>
    have hnews : ∀ j u, news[j]? = some u → w.cell? (ad.add j) = some u := by
      rcases hsee with h | ⟨a', ha, _, hx⟩
      · intro j u hj; rw [h] at hj; simp at hj
      · cases ha; exact hx
    obtain ⟨v', w', hr, h2, h3, _, h5⟩ := run_append_own_at (P := P) w 0 t ty e i z size bytes ht hi hz0 hz1 hz2 hzs hsz v n xs hown ad m c news hl hnews h1 (by simp only [maxLen]; omega) hbytes (Nat.zero_le _)
    refine ⟨v', w', hr, h2, (Chg.refl _ w).grown h3 (fun k hk _ => hk), fun k hk => ?_⟩
    rcases h5 with h5 | h5
    · exact .inl (h5 ▸ hk)
    · rw [h5] at hk
      injection hk with hk
      exact .inr (by omega)
theorem app_list (w : World) (hgd : o.guard = none) (s x : Operand) (t e : TypeId) (z : Value) (size bytes : Nat)
    (ho : o.op = .call { callee := .builtin .append, args := #[s, x], argTypes := #[t, t] }) (ht : P.underlying t = some (.slice e))
    (hinfo : (P.info? e).map (fun i => (i.zero, i.size, i.bytes)) = some (some z, size, bytes)) (hzs : z.cells.size = size) (hsz : 0 < size) (hb0 : 0 < bytes)
    (v : Value) (n : Nat) (xs : List Value) (hs : a.eval s = v) (hown : w.ownsRow 0 e size v n xs)
    (A : Option Addr) (m c : Nat) (news : List Value) (S : Nat → Prop) (hx : a.eval x = .slice A m c) (hA : A = none → c = 0) (hmc : m ≤ c) (hl : news.length = m * size) (hsee : Sees w S A news) (h1 : ∀ u ∈ news, u.oneCell' = true)
    (hbytes : (n + m) * bytes ≤ 140737488355328)
    (h : ∀ A' c' w', w'.ownsRow 0 e size (.slice A' (n + m) c') (n + m) (xs ++ news) → Chg (fun k => v.ownBlock = some k) w w' → (∀ k, (Value.slice A' (n + m) c').ownBlock = some k → v.ownBlock = some k ∨ w.heap.size ≤ k) → wpList P ops Q rest (a.put o.dst (.slice A' (n + m) c')) w') :
    wpList P ops Q (o :: rest) a w := by
  refine wpList_plain hgd fun K hK => ?_
  obtain ⟨v', w', hr, h2, h3, h4⟩ := app_run (P := P) w t o.type e z size bytes ht hinfo hzs hsz hb0 v n xs hown A m c news S hA hmc hl hsee h1 hbytes
  unfold Oper.wp execOp
  simp only [ho, resolve, invoke, builtin, Sem.run_bind, Sem.run_pure, Result.andThen_ok, List.map_toArray, List.map_cons, List.map_nil, hs, hx, hr]
  obtain ⟨A', c', rfl, _⟩ := own_sees h2
  exact hK _ _ (h A' c' w' h2 h3 h4)
theorem app_step {E : Prop} (w : World) {K : Act → World → Prop} (hgd : o.guard = none) (s x : Operand) (t e : TypeId) (z : Value) (size bytes : Nat)
    (ho : o.op = .call { callee := .builtin .append, args := #[s, x], argTypes := #[t, t] }) (ht : P.underlying t = some (.slice e))
    (hinfo : (P.info? e).map (fun i => (i.zero, i.size, i.bytes)) = some (some z, size, bytes)) (hzs : z.cells.size = size) (hsz : 0 < size) (hb0 : 0 < bytes)
    (v : Value) (n : Nat) (xs : List Value) (hs : a.eval s = v) (hown : w.ownsRow 0 e size v n xs)
    (A : Option Addr) (m c : Nat) (news : List Value) (S : Nat → Prop) (hx : a.eval x = .slice A m c) (hA : A = none → c = 0) (hmc : m ≤ c) (hl : news.length = m * size) (hsee : Sees w S A news) (h1 : ∀ u ∈ news, u.oneCell' = true)
    (hbytes : (n + m) * bytes ≤ 140737488355328)
    (h : ∀ A' c' w', w'.ownsRow 0 e size (.slice A' (n + m) c') (n + m) (xs ++ news) → Chg (fun k => v.ownBlock = some k) w w' → (∀ k, (Value.slice A' (n + m) c').ownBlock = some k → v.ownBlock = some k ∨ w.heap.size ≤ k) → K (a.put o.dst (.slice A' (n + m) c')) w') :
    if Region.wanted o (yielded ops a.tmps) = true then Oper.wp P o a w K Q else E := by
  have hw : Region.wanted o (yielded ops a.tmps) = true := by simp [Region.wanted, hgd]
  rw [if_pos hw]
  obtain ⟨v', w', hr, h2, h3, h4⟩ := app_run (P := P) w t o.type e z size bytes ht hinfo hzs hsz hb0 v n xs hown A m c news S hA hmc hl hsee h1 hbytes
  unfold Oper.wp execOp
  simp only [ho, resolve, invoke, builtin, Sem.run_bind, Sem.run_pure, Result.andThen_ok, List.map_toArray, List.map_cons, List.map_nil, hs, hx, hr]
  obtain ⟨A', c', rfl, _⟩ := own_sees h2
  exact h A' c' w' h2 h3 h4
end

/-! ### make([]T, n), a cell an element -/
theorem make_run {P : Program} (t e : TypeId) (z : Value) (bytes : Nat) (ht : P.underlying t = some (.slice e)) (hinfo : (P.info? e).map (fun i => (i.zero, i.size, i.bytes)) = some (some z, 1, bytes)) (hz1 : z.cells = #[z]) (hb0 : 0 < bytes)
    (m : Nat) (hn : m * bytes ≤ 281474976710656) (W : World) :
    (Instr.makeSlice t (.int .i64 (m : Int)) (.int .i64 (m : Int))).run P W = .ok (.slice (some ⟨W.heap.size, 0, none⟩) m m) (W.alloc (.cells (madeCells #[z] m) e)) := by
  have hm : m ≤ 281474976710656 := Nat.le_trans (Nat.le_mul_of_pos_right _ hb0) hn
  exact run_make_row' t e z bytes ht hinfo hz1 .i64 .i64 m (by rw [Nat.mul_comm]; exact hn) (by omega) W
theorem own_made (W : World) (e : TypeId) (z : Value) (m : Nat) (hm : m ≤ 281474976710656) :
    (W.alloc (.cells (madeCells #[z] m) e)).ownsRow 0 e 1 (.slice (some ⟨W.heap.size, 0, none⟩) m m) m (List.replicate m z) := by
  have := World.ownsRow_lit (base := 0) (e := e) (size := 1) W (madeCells #[z] m) m (Nat.zero_le _) (by simp [maxLen]; omega) (by simp [size_madeCells])
  rwa [toList_madeCells_one] at this

/-! ### copy over the beginning of a row of one's own -/
theorem setCells_chg (g : Nat) : ∀ (vs : List Value) (o : Nat) (w : World), Chg (fun k => k = g) w (w.setCells g o vs)
  | [], _, _ => Chg.refl _ _
  | v :: vs, o, w => ((Chg.refl (fun k => k = g) w).set (p := ⟨g, o, none⟩) (fun _ => rfl) v).trans (setCells_chg g vs (o + 1) _) (fun _ h _ => h)
theorem setCells_row {g : Nat} {e : TypeId} : ∀ (vs : List Value) (o : Nat) (w : World) (cur : Array Value), w.heap[g]? = some (.cells cur e (0, 0)) → o + vs.length ≤ cur.size →
    ∃ cur', (w.setCells g o vs).heap[g]? = some (.cells cur' e (0, 0)) ∧ cur'.toList = cur.toList.take o ++ vs ++ cur.toList.drop (o + vs.length)
  | [], o, w, cur, h, _ => ⟨cur, h, by simp⟩
  | v :: vs, o, w, cur, h, hl => by
    simp only [List.length_cons] at hl
    obtain ⟨cur', h1, h2⟩ := setCells_row vs (o + 1) (w.setCell ⟨g, o, none⟩ v) (cur.setIfInBounds o v) (blk_set h o v) (by simp; omega)
    refine ⟨cur', h1, ?_⟩
    rw [h2, Array.toList_setIfInBounds]
    apply List.ext_getElem?
    intro j
    simp only [List.getElem?_append, List.getElem?_take, List.getElem?_drop, List.length_append, List.length_take, List.length_set, List.length_cons, Array.length_toList, List.getElem?_set, List.getElem?_cons]
    have hs : cur.toList.length = cur.size := by simp
    rw [Nat.min_eq_left (by omega : o + 1 ≤ cur.size), Nat.min_eq_left (by omega : o ≤ cur.size)]
    by_cases h1 : j < o
    · have : ¬ o = j := by omega
      have h3 : j < o + 1 := by omega
      have h4 : j < o + 1 + vs.length := by omega
      have h5 : j < o + (vs.length + 1) := by omega
      simp [h1, this, h3, h4, h5]
    · by_cases h2 : j = o
      · subst h2
        have h4 : j < j + 1 + vs.length := by omega
        have h6 : j < cur.size := by omega
        simp [h4, h6]
      · have h3 : ¬ j < o + 1 := by omega
        have h7 : ¬ j - o = 0 := by omega
        by_cases h4 : j < o + 1 + vs.length
        · have h5 : j < o + (vs.length + 1) := by omega
          have h8 : j - (o + 1) = j - o - 1 := by omega
          simp [h1, h3, h4, h5, h7, h8]
        · have h5 : ¬ j < o + (vs.length + 1) := by omega
          have h8 : ¬ o = o + 1 + vs.length + (j - (o + 1 + vs.length)) := by omega
          simp [h4, h5, h8]
          congr 1
          omega
section

variable {P : Program} {ops : Array Oper} {rest : List Oper} {o : Oper} {a : Act} {Q : Exit → Act → World → Prop}

/-- copy(v, x), x as long as v: v holds x's cells. -/
theorem copy_list (w : World) (hgd : o.guard = none) (s x : Operand) (t e : TypeId)
    (ho : o.op = .call { callee := .builtin .copy, args := #[s, x], argTypes := #[t, t] }) (ht : P.underlying t = some (.slice e)) (hsz : (P.info? e).map (·.size) = some 1)
    (g n c : Nat) (xs : List Value) (hs : a.eval s = .slice (some ⟨g, 0, none⟩) n c) (hown : w.ownsRow 0 e 1 (.slice (some ⟨g, 0, none⟩) n c) n xs)
    (A : Option Addr) (c' : Nat) (news : List Value) (S : Nat → Prop) (hx : a.eval x = .slice A n c') (hl : news.length = n) (hsee : Sees w S A news) (h1 : ∀ u ∈ news, u.oneCell' = true)
    (h : ∀ w', w'.ownsRow 0 e 1 (.slice (some ⟨g, 0, none⟩) n c) n news → Chg (fun k => k = g) w w' → wpList P ops Q rest (a.put o.dst (goInt n)) w') :
    wpList P ops Q (o :: rest) a w := by
  refine wpList_plain hgd fun K hK => ?_
  have hrow := hown
  rcases hrow with ⟨hxl, h2 | ⟨g', cap, cur, hv, hg, hh, hn, hm, hc, htk⟩⟩
  · cases h2.1
  · injection hv with hv1 hv2 hv3
    injection hv1 with hv1
    injection hv1 with hv1
    subst hv1
    subst hv3
    have hcl : ∀ j, j < news.length → (w.cell? ⟨g, 0 + j, none⟩).isSome = true := fun j hj => by
      rw [Nat.zero_add, cellAt hh]
      simp
      omega
    have hfr : ∀ j, j < news.length → w.frozen? ⟨g, 0 + j, none⟩ = false := fun j _ => freeAt hh _
    have hrun : (Builtin.copy_ #[t, t] o.type #[.slice (some ⟨g, 0, none⟩) n c, .slice A n c']).run P w = .ok (goInt n) (w.setCells g 0 news) := by
      rcases hsee with rfl | ⟨ad, rfl, _, hx2⟩
      · have hn0 : n = 0 := by simpa using hl.symm
        subst hn0
        have := run_copy_none (P := P) w t t o.type e (some ⟨g, 0, none⟩) A 0 c 0 c' ht hsz (by simp)
        simpa [World.setCells] using this
      · have := run_copy_cells (P := P) w t t o.type e g 0 n c ad n c' news ht hsz (by rw [hl]; simp) hx2 hcl hfr h1
        rw [hl] at this
        exact this
    obtain ⟨cur', hb, ht'⟩ := setCells_row news 0 w cur hh (by rw [hl]; omega)
    unfold Oper.wp execOp
    simp only [ho, resolve, invoke, builtin, Sem.run_bind, Sem.run_pure, Result.andThen_ok, List.map_toArray, List.map_cons, List.map_nil, hs, hx, hrun]
    refine hK _ _ (h _ ⟨by simp [hl], .inr ⟨g, c, cur', rfl, Nat.zero_le _, hb, hn, hm, ?_, ?_⟩⟩ (setCells_chg g news 0 w))
    · rw [← Array.length_toList, ht']
      simp
      omega
    · rw [ht']
      simp [hl]
end

end Go.Proofs.Ytfpjickdkkhndaa.C


/- Kinds of values that come in: what a value's cells say, in memory that lies in S; and how the row's reading of an argument opens into them. -/

namespace Go.Proofs.Ytfpjickdkkhndaa.C

set_option linter.unusedVariables false

set_option linter.unusedSimpArgs false

open Go.RowKit

structure Ty (α : Type) where
  sz : Nat
  K : World → (Nat → Prop) → α → List Value → Prop
  len : ∀ {w S x cs}, K w S x cs → cs.length = sz
  one : ∀ {w S x cs}, K w S x cs → ∀ u ∈ cs, u.oneCell' = true
  chg : ∀ {w w' : World} {S M : Nat → Prop} {x cs}, K w S x cs → Chg M w w' → (∀ k, S k → ¬ M k) → K w' S x cs
  mono : ∀ {w : World} {S S' : Nat → Prop} {x cs}, K w S x cs → (∀ k, S k → S' k) → K w S' x cs
  bound : ∀ {w : World} {S : Nat → Prop} {x cs}, K w S x cs → K w (fun k => S k ∧ k < w.heap.size) x cs

namespace Ty
def int (k : IntKind) : Ty Int where
  sz := 1
  K := fun _ _ x cs => cs = [.int k x] ∧ (Lit.int k x).wf = true
  len := fun h => by rw [h.1]; rfl
  one := fun h u hu => by rw [h.1] at hu; rw [List.mem_singleton.1 hu]; rfl
  chg := fun h _ _ => h
  mono := fun h _ => h
  bound := fun h => h
def u8 : Ty UInt8 where
  sz := 1
  K := fun _ _ x cs => cs = [.int .u8 (x.toNat : Int)]
  len := fun h => by rw [h]; rfl
  one := fun h u hu => by rw [h] at hu; rw [List.mem_singleton.1 hu]; rfl
  chg := fun h _ _ => h
  mono := fun h _ => h
  bound := fun h => h
def bool : Ty Bool where
  sz := 1
  K := fun _ _ x cs => cs = [.bool x]
  len := fun h => by rw [h]; rfl
  one := fun h u hu => by rw [h] at hu; rw [List.mem_singleton.1 hu]; rfl
  chg := fun h _ _ => h
  mono := fun h _ => h
  bound := fun h => h
def str : Ty ByteArray where
  sz := 1
  K := fun _ _ x cs => cs = [.string x] ∧ x.size ≤ maxLen
  len := fun h => by rw [h.1]; rfl
  one := fun h u hu => by rw [h.1] at hu; rw [List.mem_singleton.1 hu]; rfl
  chg := fun h _ _ => h
  mono := fun h _ => h
  bound := fun h => h
/-- The cells of a row of elements. -/
def Row {α : Type} (d : Ty α) (w : World) (S : Nat → Prop) (xs : List α) (cells : List Value) : Prop :=
  cells.length = xs.length * d.sz ∧ ∀ i x, xs[i]? = some x → d.K w S x ((cells.drop (i * d.sz)).take d.sz)
theorem Row.nil {α : Type} (d : Ty α) (w : World) (S : Nat → Prop) : Row d w S [] [] := ⟨by simp, fun i x h => by simp at h⟩
theorem Row.chg {α : Type} {d : Ty α} {w w' : World} {S M : Nat → Prop} {xs : List α} {cells : List Value} (h : Row d w S xs cells) (hc : Chg M w w') (hd : ∀ k, S k → ¬ M k) : Row d w' S xs cells := ⟨h.1, fun i x hx => d.chg (h.2 i x hx) hc hd⟩
theorem Row.mono {α : Type} {d : Ty α} {w : World} {S S' : Nat → Prop} {xs : List α} {cells : List Value} (h : Row d w S xs cells) (hd : ∀ k, S k → S' k) : Row d w S' xs cells := ⟨h.1, fun i x hx => d.mono (h.2 i x hx) hd⟩
theorem Row.one {α : Type} {d : Ty α} {w : World} {S : Nat → Prop} {xs : List α} {cells : List Value} (h : Row d w S xs cells) : ∀ u ∈ cells, u.oneCell' = true := by
  intro u hu
  obtain ⟨j, hj, rfl⟩ := List.mem_iff_getElem.1 hu
  have hl := h.1
  have hs : 0 < d.sz := by
    rcases Nat.eq_zero_or_pos d.sz with h0 | h0
    · rw [h0] at hl; omega
    · exact h0
  have hd : j / d.sz < xs.length := by rw [Nat.div_lt_iff_lt_mul hs]; omega
  have hk := h.2 (j / d.sz) _ (List.getElem?_eq_getElem hd)
  refine d.one hk _ ?_
  refine List.mem_iff_getElem?.2 ⟨j % d.sz, ?_⟩
  rw [List.getElem?_take, if_pos (Nat.mod_lt _ hs), List.getElem?_drop]
  have : j / d.sz * d.sz + j % d.sz = j := Nat.div_add_mod' j d.sz
  rw [this]
  exact List.getElem?_eq_getElem hj
theorem Row.snoc {α : Type} {d : Ty α} {w : World} {S : Nat → Prop} {xs : List α} {cells cs : List Value} {x : α} (h : Row d w S xs cells) (hx : d.K w S x cs) : Row d w S (xs ++ [x]) (cells ++ cs) := by
  refine ⟨by rw [List.length_append, List.length_append, h.1, d.len hx]; simp [Nat.add_mul], fun i y hy => ?_⟩
  rcases Nat.lt_or_ge i xs.length with hi | hi
  · rw [List.getElem?_append_left hi] at hy
    have := h.2 i y hy
    have h2 : (i + 1) * d.sz ≤ cells.length := by rw [h.1]; exact Nat.mul_le_mul_right _ hi
    rw [Nat.add_mul, Nat.one_mul] at h2
    rw [List.drop_append_of_le_length (by omega), List.take_append_of_le_length (by rw [List.length_drop]; omega)]
    exact this
  · rw [List.getElem?_append_right hi] at hy
    have hi' : i = xs.length := by
      rcases Nat.eq_zero_or_pos (i - xs.length) with h0 | h0
      · omega
      · rw [List.getElem?_eq_none (by simp; omega)] at hy; cases hy
    subst hi'
    simp at hy
    subst hy
    rw [← h.1, List.drop_left, List.take_of_length_le (by rw [d.len hx]; exact Nat.le_refl _)]
    exact hx
theorem Row.take {α : Type} {d : Ty α} {w : World} {S : Nat → Prop} {xs : List α} {cells : List Value} (h : Row d w S xs cells) (n : Nat) : Row d w S (xs.take n) (cells.take (n * d.sz)) := by
  refine ⟨by rw [List.length_take, List.length_take, h.1]; rcases Nat.le_total n xs.length with h1 | h1
             · rw [Nat.min_eq_left h1, Nat.min_eq_left (Nat.mul_le_mul_right _ h1)]
             · rw [Nat.min_eq_right h1, Nat.min_eq_right (Nat.mul_le_mul_right _ h1)], fun i x hx => ?_⟩
  rw [List.getElem?_take] at hx
  split at hx
  · rename_i hi
    have h2 : (i + 1) * d.sz ≤ n * d.sz := Nat.mul_le_mul_right _ hi
    rw [Nat.add_mul, Nat.one_mul] at h2
    rw [List.drop_take, List.take_take, Nat.min_eq_left (by omega)]
    exact h.2 i x hx
  · cases hx
theorem Row.drop {α : Type} {d : Ty α} {w : World} {S : Nat → Prop} {xs : List α} {cells : List Value} (h : Row d w S xs cells) (n : Nat) : Row d w S (xs.drop n) (cells.drop (n * d.sz)) := by
  refine ⟨by rw [List.length_drop, List.length_drop, h.1, Nat.sub_mul], fun i x hx => ?_⟩
  rw [List.getElem?_drop] at hx
  have := h.2 (n + i) x hx
  rw [List.drop_drop, ← Nat.add_mul]
  exact this
/-- A slice that is read: A, c: where it lies, its capacity. -/
def At {α : Type} (d : Ty α) (w : World) (S : Nat → Prop) (A : Option Addr) (n c : Nat) (xs : List α) : Prop :=
  n = xs.length ∧ n ≤ c ∧ c ≤ maxLen ∧ (A = none → c = 0) ∧ ∃ cells, Sees w S A cells ∧ Row d w S xs cells
theorem At.chg {α : Type} {d : Ty α} {w w' : World} {S M : Nat → Prop} {A : Option Addr} {n c : Nat} {xs : List α} (h : At d w S A n c xs) (hc : Chg M w w') (hd : ∀ k, S k → ¬ M k) : At d w' S A n c xs := by
  obtain ⟨h1, h2, h3, h4, cells, h5, h6⟩ := h
  exact ⟨h1, h2, h3, h4, cells, h5.chg hc hd, h6.chg hc hd⟩
theorem At.mono {α : Type} {d : Ty α} {w : World} {S S' : Nat → Prop} {A : Option Addr} {n c : Nat} {xs : List α} (h : At d w S A n c xs) (hd : ∀ k, S k → S' k) : At d w S' A n c xs := by
  obtain ⟨h1, h2, h3, h4, cells, h5, h6⟩ := h
  exact ⟨h1, h2, h3, h4, cells, h5.mono hd, h6.mono hd⟩
theorem At.bound {α : Type} {d : Ty α} {w : World} {S : Nat → Prop} {A : Option Addr} {n c : Nat} {xs : List α} (h : At d w S A n c xs) : At d w (fun k => S k ∧ k < w.heap.size) A n c xs := by
  obtain ⟨h1, h2, h3, h4, cells, h5, h6⟩ := h
  exact ⟨h1, h2, h3, h4, cells, h5.bound, h6.1, fun i x hx => d.bound (h6.2 i x hx)⟩
def slice {α : Type} (d : Ty α) : Ty (List α) where
  sz := 1
  K := fun w S xs cs => ∃ A n c, cs = [.slice A n c] ∧ At d w S A n c xs
  len := fun h => by obtain ⟨_, _, _, rfl, _⟩ := h; rfl
  one := fun h u hu => by obtain ⟨_, _, _, rfl, _⟩ := h; rw [List.mem_singleton.1 hu]; rfl
  chg := fun h hc hd => by obtain ⟨A, n, c, rfl, h⟩ := h; exact ⟨A, n, c, rfl, h.chg hc hd⟩
  mono := fun h hd => by obtain ⟨A, n, c, rfl, h⟩ := h; exact ⟨A, n, c, rfl, h.mono hd⟩
  bound := fun h => by obtain ⟨A, n, c, rfl, h⟩ := h; exact ⟨A, n, c, rfl, h.bound⟩
def pair {α β : Type} (a : Ty α) (b : Ty β) : Ty (α × β) where
  sz := a.sz + b.sz
  K := fun w S x cs => ∃ c0 c1, cs = c0 ++ c1 ∧ a.K w S x.1 c0 ∧ b.K w S x.2 c1
  len := fun h => by obtain ⟨_, _, rfl, h0, h1⟩ := h; rw [List.length_append, a.len h0, b.len h1]
  one := fun h u hu => by
    obtain ⟨_, _, rfl, h0, h1⟩ := h
    rcases List.mem_append.1 hu with hu | hu
    · exact a.one h0 u hu
    · exact b.one h1 u hu
  chg := fun h hc hd => by obtain ⟨_, _, rfl, h0, h1⟩ := h; exact ⟨_, _, rfl, a.chg h0 hc hd, b.chg h1 hc hd⟩
  mono := fun h hd => by obtain ⟨_, _, rfl, h0, h1⟩ := h; exact ⟨_, _, rfl, a.mono h0 hd, b.mono h1 hd⟩
  bound := fun h => by obtain ⟨_, _, rfl, h0, h1⟩ := h; exact ⟨_, _, rfl, a.bound h0, b.bound h1⟩
def iso {α β : Type} (d : Ty α) (f : β → α) : Ty β where
  sz := d.sz
  K := fun w S x cs => d.K w S (f x) cs
  len := d.len
  one := d.one
  chg := d.chg
  mono := d.mono
  bound := d.bound

/-- What is read stays as it is where only new blocks, and blocks made since, are written. -/
theorem At.new {α : Type} {d : Ty α} {w w' : World} {S : Nat → Prop} {A : Option Addr} {n c : Nat} {xs : List α} (h : At d w S A n c xs) (hc : Chg (fun k => w.heap.size ≤ k) w w') : At d w' S A n c xs :=
  (h.bound.chg hc (fun k hk hlt => by have := hk.2; omega)).mono (fun k hk => hk.1)

/-- xs[m:] -/
theorem At.from_ {P : Program} {α : Type} {d : Ty α} {t e : TypeId} {z : Value} {bytes : Nat} (ht : P.underlying t = some (.slice e)) (hinfo : (P.info? e).map (fun i => (i.zero, i.size, i.bytes)) = some (some z, d.sz, bytes)) (A : Option Addr) (n c m q : Nat) (i : Int) (hi : i = (m : Int)) (hm : m ≤ n) (hq : n - m = q) :
    ∃ A' c', (∀ W : World, (Instr.slice t (.slice A n c) (some (.int .i64 i)) none none).run P W = .ok (.slice A' q c') W) ∧ ∀ (w : World) (S : Nat → Prop) (xs : List α), At d w S A n c xs → At d w S A' q c' (xs.drop m) := by
  obtain ⟨j, hj, _, hs, _⟩ := info_parts hinfo
  subst hi
  refine ⟨_, _, fun W => by rw [cut_from t e .i64 ht hj d.sz hs A n c m hm W, hq], fun w S xs h => ?_⟩
  obtain ⟨h1, h2, h3, h4, cells, h5, h6⟩ := h
  refine ⟨by rw [List.length_drop]; omega, by omega, by omega, fun hA => ?_, _, h5.cut (by rw [h6.1]; exact Nat.mul_le_mul_right _ (by omega)) (by omega), h6.drop m⟩
  split at hA
  · omega
  · have := h4 (by simpa using hA)
    omega
/-- xs[a:b], b within the length -/
theorem At.mid_ {P : Program} {α : Type} {d : Ty α} {t e : TypeId} {z : Value} {bytes : Nat} (ht : P.underlying t = some (.slice e)) (hinfo : (P.info? e).map (fun i => (i.zero, i.size, i.bytes)) = some (some z, d.sz, bytes)) (A : Option Addr) (n c a b q : Nat) (i j : Int) (hi : i = (a : Int)) (hj : j = (b : Int)) (hab : a ≤ b) (hb : b ≤ n) (hc : n ≤ c) (hq : b - a = q) :
    ∃ A' c', (∀ W : World, (Instr.slice t (.slice A n c) (some (.int .i64 i)) (some (.int .i64 j)) none).run P W = .ok (.slice A' q c') W) ∧ ∀ (w : World) (S : Nat → Prop) (xs : List α), At d w S A n c xs → At d w S A' q c' ((xs.take b).drop a) := by
  obtain ⟨k, hk, _, hs, _⟩ := info_parts hinfo
  subst hi hj
  refine ⟨_, _, fun W => by rw [cut_mid t e .i64 .i64 ht hk d.sz hs A n c a b hab (by omega) W, hq], fun w S xs h => ?_⟩
  obtain ⟨h1, h2, h3, h4, cells, h5, h6⟩ := h
  refine ⟨by rw [List.length_drop, List.length_take]; omega, by omega, by omega, fun hA => ?_, _, (h5.take (b * d.sz)).cut (by rw [List.length_take, h6.1]; exact Nat.le_trans (Nat.min_le_right _ _) (Nat.mul_le_mul_right _ (by omega))) (by omega), (h6.take b).drop a⟩
  split at hA
  · omega
  · have := h4 (by simpa using hA)
    omega
/-- xs[:b], b within the length -/
theorem At.to_ {α : Type} {d : Ty α} {w : World} {S : Nat → Prop} {A : Option Addr} {n c : Nat} {xs : List α} (h : At d w S A n c xs) {b : Nat} (hb : b ≤ n) : At d w S A b c (xs.take b) := by
  obtain ⟨h1, h2, h3, h4, cells, h5, h6⟩ := h
  exact ⟨by rw [List.length_take]; omega, by omega, h3, h4, _, h5.take (b * d.sz), h6.take b⟩

/-- Element i of a slice that is read. -/
theorem At.get {α : Type} {d : Ty α} {w : World} {S : Nat → Prop} {A : Option Addr} {n c : Nat} {xs : List α} (h : At d w S A n c xs) (hs : 0 < d.sz) {i : Nat} {x : α} (hx : xs[i]? = some x) :
    ∃ a cs, A = some a ∧ S a.block ∧ d.K w S x cs ∧ ∀ j u, cs[j]? = some u → w.cell? (a.add (i * d.sz + j)) = some u := by
  obtain ⟨h1, h2, h3, h4, cells, h5, h6⟩ := h
  have hi : i < xs.length := by
    rcases Nat.lt_or_ge i xs.length with h | h
    · exact h
    · rw [List.getElem?_eq_none h] at hx; cases hx
  rcases h5 with h5 | ⟨a, ha, hS, hc⟩
  · exfalso
    have := h6.1
    rw [h5] at this
    have h7 : 0 < xs.length * d.sz := Nat.mul_pos (by omega) hs
    simp at this
    omega
  · refine ⟨a, _, ha, hS, h6.2 i x hx, fun j u hj => ?_⟩
    rw [List.getElem?_take] at hj
    split at hj
    · rw [List.getElem?_drop] at hj
      exact hc _ u hj
    · cases hj
theorem u8_row {w : World} {S : Nat → Prop} {l : List UInt8} {cells : List Value} : Row u8 w S l cells ↔ cells = u8s l := by
  constructor
  · rintro ⟨h1, h2⟩
    apply List.ext_getElem?
    intro i
    rcases Nat.lt_or_ge i l.length with hi | hi
    · have h3 : (cells.drop (i * 1)).take 1 = [.int .u8 ((l[i]).toNat : Int)] := h2 i _ (List.getElem?_eq_getElem hi)
      rw [u8s_at (List.getElem?_eq_getElem hi)]
      have h4 := congrArg (·[0]?) h3
      simpa using h4
    · rw [List.getElem?_eq_none (by rw [h1]; show l.length * 1 ≤ i; omega), List.getElem?_eq_none (by rw [u8s_length]; omega)]
  · rintro rfl
    refine ⟨by rw [u8s_length]; show _ = l.length * 1; omega, fun i x hx => ?_⟩
    show ((u8s l).drop (i * 1)).take 1 = [.int .u8 (x.toNat : Int)]
    have h1 := u8s_at hx
    have hl : i < (u8s l).length := by
      rcases Nat.lt_or_ge i (u8s l).length with h | h
      · exact h
      · rw [List.getElem?_eq_none h] at h1; cases h1
    rw [Nat.mul_one, List.drop_eq_getElem_cons hl]
    rw [List.getElem?_eq_getElem hl] at h1
    injection h1 with h1
    rw [h1]
    rfl
/-- Bytes that are read. -/
theorem At.bytes {w : World} {S : Nat → Prop} {A : Option Addr} {n c : Nat} {l : List UInt8} (h : At u8 w S A n c l) : Sees w S A (u8s l) := by
  obtain ⟨_, _, _, _, cells, h5, h6⟩ := h
  rw [u8_row] at h6
  rw [← h6]
  exact h5
theorem At.of_bytes {w : World} {S : Nat → Prop} {A : Option Addr} {n c : Nat} {l : List UInt8} (h1 : n = l.length) (h2 : n ≤ c) (h3 : c ≤ maxLen) (h4 : A = none → c = 0) (h5 : Sees w S A (u8s l)) : At u8 w S A n c l := ⟨h1, h2, h3, h4, u8s l, h5, u8_row.2 rfl⟩
/-- One byte that is read. -/
theorem byteAt {w : World} {S : Nat → Prop} {A : Option Addr} {n c : Nat} {l : List UInt8} (h : At u8 w S A n c l) {i : Nat} {x : UInt8} (hx : l[i]? = some x) : ∃ a, A = some a ∧ S a.block ∧ w.cell? (a.add i) = some (.int .u8 (x.toNat : Int)) := by
  rcases h.bytes with h5 | ⟨a, ha, hS, hc⟩
  · exfalso
    have h6 := u8s_at hx
    rw [h5] at h6
    simp at h6
  · exact ⟨a, ha, hS, hc i _ (u8s_at hx)⟩
end Ty

/-! ### How a reading of an argument opens -/

section

variable {H : Type} {P : Program}

/-- A reading of type t, from block 0 on, is of kind d, in memory that was there. -/
structure Opens (P : Program) (t : TypeId) {α : Type} (d : Ty α) : Prop where
  size : P.cellsOf t = d.sz
  opens : ∀ {H : Type} (enc : TypeId × Value → H) (w : World) (spare : Nat → Bool) (held : Bool) (fuel : Nat) (cs : List Value) (x : DataW H × List MemPlace),
    DataW.trod enc P w 0 spare held fuel t cs = some x → ∃ v, d.K w (fun k => k < w.heap.size) v cs
theorem opens_int {t : TypeId} {k : IntKind} (ht : P.underlying t = some (.int k)) (hs : P.cellsOf t = 1) : Opens P t (Ty.int k) :=
  ⟨hs, fun enc w spare held fuel cs x h => by obtain ⟨n, rfl, _, hw⟩ := DataW.trod_int ht h; exact ⟨n, rfl, hw⟩⟩
theorem opens_u8 {t : TypeId} (ht : P.underlying t = some (.int .u8)) (hs : P.cellsOf t = 1) : Opens P t Ty.u8 :=
  ⟨hs, fun enc w spare held fuel cs x h => by
    obtain ⟨n, rfl, _, hw⟩ := DataW.trod_int ht h
    have hb : 0 ≤ n ∧ n ≤ 255 := by simpa [Lit.wf, IntKind.min, IntKind.max, IntKind.signed, IntKind.bits] using hw
    refine ⟨UInt8.ofNat n.toNat, ?_⟩
    show [Value.int .u8 n] = [Value.int .u8 _]
    have e : ((UInt8.ofNat n.toNat).toNat : Int) = n := by
      rw [UInt8.toNat_ofNat', Nat.mod_eq_of_lt (by omega)]; omega
    rw [e]⟩
theorem opens_bool {t : TypeId} (ht : P.underlying t = some .bool) (hs : P.cellsOf t = 1) : Opens P t Ty.bool :=
  ⟨hs, fun enc w spare held fuel cs x h => by obtain ⟨n, rfl, _⟩ := DataW.trod_bool ht h; exact ⟨n, rfl⟩⟩
theorem opens_str {t : TypeId} (ht : P.underlying t = some .string) (hs : P.cellsOf t = 1) : Opens P t Ty.str :=
  ⟨hs, fun enc w spare held fuel cs x h => by obtain ⟨n, rfl, _, hm⟩ := DataW.trod_string ht h; exact ⟨n, rfl, hm⟩⟩
theorem opens_slice {t e : TypeId} {α : Type} {d : Ty α} (ht : P.underlying t = some (.slice e)) (hs : P.cellsOf t = 1) (hd : Opens P e d) (h0 : 0 < d.sz) : Opens P t (Ty.slice d) :=
  ⟨hs, fun enc w spare held fuel cs x h => by
    classical
    rcases Go.Deep.open_slice ht h with ⟨rfl, _⟩ | ⟨a, len, cap, m, n, D, Pl, rfl, hb, hl, hm, hmm, rfl, hx⟩
    · exact ⟨[], none, 0, 0, rfl, rfl, Nat.le_refl _, by simp [maxLen], fun _ => rfl, [], .nil _ _ _, Ty.Row.nil _ _ _⟩
    · have hlm : len ≤ m := by rw [hmm]; split <;> omega
      have hall : ∀ i, i < len → ∃ cs' v, w.cells? 0 (a.add (i * P.cellsOf e)) (P.cellsOf e) = some cs' ∧ d.K w (fun k => k < w.heap.size) v cs' := fun i hi => by
        obtain ⟨cs', h1, h2⟩ := hx i (by omega)
        obtain ⟨_, hlen, _⟩ := World.cells?_some h1
        obtain ⟨v, hv⟩ := hd.2 enc w spare held n cs' _ h2
        exact ⟨cs', v, h1, hv⟩
      have step : ∀ k, k ≤ len → ∃ (xs : List α) (cells : List Value), xs.length = k ∧ Ty.Row d w (fun k => k < w.heap.size) xs cells ∧ ∀ j u, cells[j]? = some u → w.cell? (a.add j) = some u := by
        intro k
        induction k with
        | zero => intro _; exact ⟨[], [], rfl, Ty.Row.nil _ _ _, fun j u hj => by simp at hj⟩
        | succ k ih =>
          intro hk
          obtain ⟨xs, cells, hxl, hr, hc⟩ := ih (by omega)
          obtain ⟨cs', v, h1, h2⟩ := hall k (by omega)
          obtain ⟨_, hlen, hcell⟩ := World.cells?_some h1
          refine ⟨xs ++ [v], cells ++ cs', by simp [hxl], hr.snoc h2, fun j u hj => ?_⟩
          have hcl : cells.length = k * d.sz := by rw [hr.1, hxl]
          rcases Nat.lt_or_ge j cells.length with hj' | hj'
          · rw [List.getElem?_append_left hj'] at hj
            exact hc j u hj
          · rw [List.getElem?_append_right hj'] at hj
            have hj2 : j - cells.length < cs'.length := by
              rcases Nat.lt_or_ge (j - cells.length) cs'.length with h | h
              · exact h
              · rw [List.getElem?_eq_none h] at hj; cases hj
            have := hcell (j - cells.length) (by omega)
            rw [add_add, hd.1, ← hcl] at this
            rw [← hj, ← this]
            congr 2
            omega
      obtain ⟨xs, cells, hxl, hr, hc⟩ := step len (Nat.le_refl _)
      refine ⟨xs, some a, len, cap, rfl, hxl.symm, hl, hm, by simp, cells, ?_, hr⟩
      rcases Nat.eq_zero_or_pos cells.length with h | h
      · exact .inl (List.eq_nil_of_length_eq_zero h)
      · refine .inr ⟨a, rfl, ?_, hc⟩
        have := World.block_lt_of_cell? w _ (hc 0 cells[0] (List.getElem?_eq_getElem h))
        rwa [add_block] at this⟩
/-- The fields from the i-th on, whose cells begin at off. -/
structure OpensF (P : Program) (fs : Array Field) (i off : Nat) {α : Type} (d : Ty α) : Prop where
  opens : ∀ {H : Type} (enc : TypeId × Value → H) (w : World) (spare : Nat → Bool) (held : Bool) (n : Nat) (cs : List Value),
    (∀ (j : Nat) (f : Field), fs[j]? = some f → ∃ y, DataW.trod enc P w 0 spare held n f.type ((cs.drop f.offset).take (P.cellsOf f.type)) = some y) → off + d.sz ≤ cs.length → ∃ v, d.K w (fun k => k < w.heap.size) v ((cs.drop off).take d.sz)
theorem opensF_last {fs : Array Field} {i off : Nat} {α : Type} {d : Ty α} {f : Field} (hf : fs[i]? = some f) (ho : f.offset = off) (hd : Opens P f.type d) : OpensF P fs i off d :=
  ⟨fun enc w spare held n cs h hl => by
    obtain ⟨y, hy⟩ := h i f hf
    rw [ho, hd.1] at hy
    exact hd.2 enc w spare held n _ y hy⟩
theorem opensF_cons {fs : Array Field} {i off : Nat} {α β : Type} {d : Ty α} {r : Ty β} {f : Field} (hf : fs[i]? = some f) (ho : f.offset = off) (hd : Opens P f.type d) (hr : OpensF P fs (i + 1) (off + d.sz) r) : OpensF P fs i off (Ty.pair d r) :=
  ⟨fun enc w spare held n cs h hl => by
    have hl' : off + (d.sz + r.sz) ≤ cs.length := hl
    obtain ⟨x, hx⟩ := (opensF_last hf ho hd).1 enc w spare held n cs h (by omega)
    obtain ⟨y, hy⟩ := hr.1 enc w spare held n cs h (by omega)
    refine ⟨(x, y), _, _, ?_, hx, hy⟩
    show (cs.drop off).take (d.sz + r.sz) = _
    rw [List.take_add, List.drop_drop]⟩
theorem opens_struct {t : TypeId} {fs : Array Field} {α β : Type} {d : Ty α} (ht : P.underlying t = some (.struct fs)) (hs : P.cellsOf t = d.sz) (hd : OpensF P fs 0 0 d) (f : β → α) (g : α → β) (hfg : ∀ x, f (g x) = x) : Opens P t (Ty.iso d f) :=
  ⟨hs, fun enc w spare held fuel cs x h => by
    obtain ⟨xs, n, rfl, rfl, hcl, hxl, hx⟩ := DataW.trod_struct ht h
    obtain ⟨v, hv⟩ := hd.1 enc w spare held n cs (fun j f hf => by
      have hj : j < xs.length := by
        rw [hxl]
        rcases Nat.lt_or_ge j fs.size with h | h
        · exact h
        · rw [Array.getElem?_eq_none h] at hf; cases hf
      exact ⟨xs[j], by rw [hx j f hf, List.getElem?_eq_getElem hj]⟩) (by rw [Nat.zero_add, ← hs, hcl]; exact Nat.le_refl _)
    refine ⟨g v, ?_⟩
    show d.K w _ (f (g v)) cs
    rw [hfg, List.drop_zero, List.take_of_length_le (by rw [hcl, hs]; exact Nat.le_refl _)] at *
    exact hv⟩
end
theorem wf64 {x : Int} (h : (Lit.int .i64 x).wf = true) : -9223372036854775808 ≤ x ∧ x ≤ 9223372036854775807 := by
  simpa [Lit.wf, IntKind.min, IntKind.max, IntKind.signed, IntKind.bits] using h

end Go.Proofs.Ytfpjickdkkhndaa.C


/- Regions that draw their order, walked in one order: what is read may be taken first, as in the library's own law, and at an operation that all others wait for, or that waits for all others, the condition on the world may be chosen anew. -/

namespace Go.Proofs.Ytfpjickdkkhndaa.C

set_option linter.unusedVariables false

section

variable {P : Program} {ops : Array Oper} {Q : Exit → Act → World → Prop} {md : Region.Mode}

def waits (md : Region.Mode) (ops : Array Oper) (j i : Nat) : Bool :=
  match ops[j]? with
  | some o => o.after.any fun e => Region.binds md e && e.on == i
  | none => false
/-- Every other operation waits for it, or it waits for the other one (by one step, or by two). -/
def waits2 (md : Region.Mode) (ops : Array Oper) (j i : Nat) : Bool := waits md ops j i || (List.range ops.size).any fun k => waits md ops j k && waits md ops k i
def barrier (md : Region.Mode) (ops : Array Oper) (j : Nat) : Bool :=
  (List.range ops.size).all fun i => i == j || waits2 md ops j i || waits2 md ops i j
/-- What has come up has come up behind what it waits for. -/
def closed (md : Region.Mode) (ops : Array Oper) (listed : Array Bool) : Bool :=
  (List.range ops.size).all fun j => !listed.getD j false || (match ops[j]? with | some o => o.after.all fun e => !Region.binds md e || listed.getD e.on false | none => true)

def wpAnyB (P : Program) (md : Region.Mode) (ops : Array Oper) (Q : Exit → Act → World → Prop) : Nat → (World → Prop) → Array Bool → Act → World → Prop
  | 0, _, listed, a, w => Region.ready md ops listed = [] ∧ Q .normal a w
  | fuel + 1, S, listed, a, w =>
    (Region.ready md ops listed = [] → Q .normal a w) ∧
    ∀ i ∈ Region.ready md ops listed, wpOp P ops Q i (fun a' w' => if barrier md ops i = true then ∃ S' : World → Prop, wpAnyB P md ops Q fuel S' (listed.setIfInBounds i true) a' w' else S w' ∧ wpAnyB P md ops Q fuel S (listed.setIfInBounds i true) a' w') a w

theorem wpAny_of_B : ∀ (fuel : Nat) (S : World → Prop) (listed : Array Bool) (a : Act) (w : World), wpAnyB P md ops Q fuel S listed a w → wpAny P md ops Q fuel listed a w
  | 0, _, _, _, _, h => h
  | fuel + 1, S, _, _, _, h => ⟨h.1, fun i hi => wpOp_mono (fun a' w' h' => by
      split at h'
      · obtain ⟨S', h'⟩ := h'; exact wpAny_of_B fuel S' _ a' w' h'
      · exact wpAny_of_B fuel S _ a' w' h'.2) (h.2 i hi)⟩

theorem waits_ready {j i : Nat} {listed : Array Bool} (hw : waits md ops j i = true) (hj : j ∈ Region.ready md ops listed) : listed.getD i false = true := by
  obtain ⟨_, o, ho, hall⟩ := mem_ready.1 hj
  unfold waits at hw
  rw [ho] at hw
  obtain ⟨e, he, hb⟩ := Array.any_eq_true'.1 hw
  simp only [Bool.and_eq_true, beq_iff_eq] at hb
  rw [← hb.2]
  exact hall e he hb.1
theorem not_listed {i : Nat} {listed : Array Bool} (h0 : listed.getD i true = false) (h1 : listed.getD i false = true) : False := by
  rcases Nat.lt_or_ge i listed.size with h' | h'
  · simp [h'] at h0 h1; rw [h0] at h1; cases h1
  · simp [Array.getElem?_eq_none h'] at h1
theorem waits_closed {j i : Nat} {listed : Array Bool} (hc : closed md ops listed = true) (hw : waits md ops j i = true) (hj : listed.getD j false = true) : listed.getD i false = true := by
  unfold waits at hw
  split at hw
  · rename_i o ho
    obtain ⟨e, he, hb⟩ := Array.any_eq_true'.1 hw
    simp only [Bool.and_eq_true, beq_iff_eq] at hb
    unfold closed at hc
    rw [List.all_eq_true] at hc
    have h1 := hc j (List.mem_range.2 (Array.getElem?_eq_some_iff.1 ho).1)
    simp only [ho, hj, Bool.not_true, Bool.false_or] at h1
    have h2 := Array.all_eq_true_iff_forall_mem.1 h1 e he
    simp only [hb.1, Bool.not_true, Bool.false_or] at h2
    rw [← hb.2]; exact h2
  · cases hw
theorem waits2_ready {j i : Nat} {listed : Array Bool} (hc : closed md ops listed = true) (hw : waits2 md ops j i = true) (hj : j ∈ Region.ready md ops listed) : listed.getD i false = true := by
  unfold waits2 at hw
  rw [Bool.or_eq_true] at hw
  rcases hw with hw | hw
  · exact waits_ready hw hj
  · obtain ⟨k, _, hk⟩ := List.any_eq_true.1 hw
    rw [Bool.and_eq_true] at hk
    exact waits_closed hc hk.2 (waits_ready hk.1 hj)
theorem closed_set {j : Nat} {listed : Array Bool} (hc : closed md ops listed = true) (hj : j ∈ Region.ready md ops listed) : closed md ops (listed.setIfInBounds j true) = true := by
  unfold closed at hc ⊢
  rw [List.all_eq_true] at hc ⊢
  intro k hk
  have h1 := hc k hk
  by_cases hkj : j = k
  · subst hkj
    obtain ⟨_, o, ho, hall⟩ := mem_ready.1 hj
    rw [ho]
    simp only [Bool.or_eq_true]
    refine .inr (Array.all_eq_true_iff_forall_mem.2 fun e he => ?_)
    cases hb : Region.binds md e with
    | false => rfl
    | true => simp only [Bool.not_true, Bool.false_or]; exact getD_set_true (hall e he hb)
  · rw [getD_set_ne false hkj]
    rw [Bool.or_eq_true] at h1 ⊢
    refine h1.imp id fun h1 => ?_
    split
    · rename_i o ho
      rw [ho] at h1
      refine Array.all_eq_true_iff_forall_mem.2 fun e he => ?_
      have h2 := Array.all_eq_true_iff_forall_mem.1 h1 e he
      rw [Bool.or_eq_true] at h2 ⊢
      exact h2.imp id getD_set_true
    · rfl
theorem not_barrier {i j : Nat} {listed : Array Bool} (hc : closed md ops listed = true) (hi : i ∈ Region.ready md ops listed) (hj : j ∈ Region.ready md ops listed) (hne : j ≠ i) : barrier md ops j = false := by
  rw [Bool.eq_false_iff]
  intro hb
  unfold barrier at hb
  rw [List.all_eq_true] at hb
  obtain ⟨hi0, o, ho, _⟩ := mem_ready.1 hi
  have := hb i (List.mem_range.2 (Array.getElem?_eq_some_iff.1 ho).1)
  simp only [Bool.or_eq_true, beq_iff_eq] at this
  rcases this with (h | h) | h
  · exact hne h.symm
  · exact not_listed hi0 (waits2_ready hc h hj)
  · exact not_listed (mem_ready.1 hj).1 (waits2_ready hc h hi)

theorem wpAnyB_first {i : Nat} {oi : Oper} {v : Value} (hi : ops[i]? = some oi) (hsel : ∀ (j : Nat) (o : Oper) cs b, ops[j]? = some o → o.op ≠ .select cs b)
    (hQ : ∀ c a w, Q (.panic c) (a.put oi.dst v) w → Q (.panic c) a w) :
    ∀ (fuel : Nat) (S : World → Prop) (listed : Array Bool) (a : Act) (w : World), closed md ops listed = true →
      (∀ j oj, ops[j]? = some oj → j ≠ i → listed.getD j true = false → (∀ e ∈ oj.after, Region.binds md e = true → e.on ≠ i) → oi.apart ops oj = true) →
      i ∈ Region.ready md ops listed → YieldsIf P ops S oi v a → S w →
      wpAnyB P md ops Q fuel S (listed.setIfInBounds i true) (a.put oi.dst v) w → wpAnyB P md ops Q (fuel + 1) S listed a w := by
  have fin : ∀ (fuel : Nat) (S : World → Prop) (l : Array Bool) (a : Act) (w : World), S w → wpAnyB P md ops Q fuel S l a w → if barrier md ops i = true then ∃ S' : World → Prop, wpAnyB P md ops Q fuel S' l a w else S w ∧ wpAnyB P md ops Q fuel S l a w := fun fuel S l a w hS H => by
    split
    · exact ⟨S, H⟩
    · exact ⟨hS, H⟩
  intro fuel
  induction fuel with
  | zero =>
    intro S listed a w _ _ hr hy hS H
    refine ⟨fun h => (by rw [h] at hr; cases hr), fun j hj => ?_⟩
    by_cases hji : j = i
    · subst hji; exact hy.wpOp hi hS (fin _ _ _ _ _ hS H)
    · have := ready_mono hj hji
      rw [H.1] at this
      cases this
  | succ fuel ih =>
    intro S listed a w hcl hfree hr hy hS H
    refine ⟨fun h => (by rw [h] at hr; cases hr), fun j hj => ?_⟩
    by_cases hji : j = i
    · subst hji; exact hy.wpOp hi hS (fin _ _ _ _ _ hS H)
    · have hnb := not_barrier hcl hr hj hji
      have h1 := H.2 j (ready_mono hj hji)
      simp only [hnb, Bool.false_eq_true, if_false] at h1 ⊢
      obtain ⟨hjun, oj, hoj, hall⟩ := mem_ready.1 hj
      have hnot : ∀ e ∈ oj.after, Region.binds md e = true → e.on ≠ i := fun e he hb heq => by
        have h1 := hall e he hb
        have h0 := (mem_ready.1 hr).1
        rw [heq] at h1
        exact not_listed h0 h1
      have h2 := wpOp_putIf hoj (hfree j oj hoj hji hjun hnot) (fun cs b => hsel i oi cs b hi) (fun cs b => hsel j oj cs b hoj) hQ hy h1
      have hfree' : ∀ k ok, ops[k]? = some ok → k ≠ i → (listed.setIfInBounds j true).getD k true = false →
          (∀ e ∈ ok.after, Region.binds md e = true → e.on ≠ i) → oi.apart ops ok = true := fun k ok hk hki hun hno => by
        refine hfree k ok hk hki ?_ hno
        by_cases hjk : j = k
        · subst hjk; exact hjun
        · rw [getD_set_ne true hjk] at hun; exact hun
      refine wpOp_mono (fun a' w' h3 => ⟨h3.2.1, ih S (listed.setIfInBounds j true) a' w' (closed_set hcl hj) hfree' (ready_mono hr (Ne.symm hji)) h3.1 h3.2.1 ?_⟩) h2
      rw [Array.setIfInBounds_comm _ _ hji]
      exact h3.2.2

/-- Take number i first. -/
theorem wpB_take {S : World → Prop} {i : Nat} {oi : Oper} {v : Value} {fuel : Nat} {listed : Array Bool} {a : Act} {w : World} (hi : ops[i]? = some oi)
    (hcl : closed md ops listed = true) (hs : Region.noSelect ops = true) (hf : Region.free md ops listed i = true) (hr : (Region.ready md ops listed).contains i = true)
    (hQ : ∀ c a w, Q (.panic c) (a.put oi.dst v) w → Q (.panic c) a w) (hy : YieldsIf P ops S oi v a) (hS : S w)
    (h : wpAnyB P md ops Q fuel S (listed.setIfInBounds i true) (a.put oi.dst v) w) : wpAnyB P md ops Q (fuel + 1) S listed a w :=
  wpAnyB_first hi (Region.noSelect_spec hs) hQ fuel S listed a w hcl (Region.free_spec hi hf) (by simpa using hr) hy hS h
/-- The one operation that may come up. -/
theorem wpB_act {S : World → Prop} {i : Nat} {o : Oper} {fuel : Nat} {listed : Array Bool} {a : Act} {w : World} (hr : Region.ready md ops listed = [i]) (ho : ops[i]? = some o)
    (h : ∀ K' : Act → World → Prop, Shut (∀ a w, S w → (S w → wpAnyB P md ops Q fuel S (listed.setIfInBounds i true) a w) → K' a w) → if Region.wanted o (yielded ops a.tmps) = true then Oper.wp P o a w K' Q else K' (a.put o.dst undef) w) :
    wpAnyB P md ops Q (fuel + 1) S listed a w :=
  ⟨fun h0 => (by rw [hr] at h0; cases h0), fun j hj => by
    rw [hr] at hj
    rw [List.mem_singleton.1 hj]
    refine wpOp_step ho (fun K' hK => h K' (fun a w hS hW => hK a w ?_))
    split
    · exact ⟨S, hW hS⟩
    · exact ⟨hS, hW hS⟩⟩
/-- The one operation that may come up, and it stands between all others: behind it another condition. -/
theorem wpB_bar {S : World → Prop} {i : Nat} {o : Oper} {fuel : Nat} {listed : Array Bool} {a : Act} {w : World} (hr : Region.ready md ops listed = [i]) (ho : ops[i]? = some o) (hb : barrier md ops i = true)
    (h : ∀ K' : Act → World → Prop, Shut (∀ a w (S' : World → Prop), wpAnyB P md ops Q fuel S' (listed.setIfInBounds i true) a w → K' a w) → if Region.wanted o (yielded ops a.tmps) = true then Oper.wp P o a w K' Q else K' (a.put o.dst undef) w) :
    wpAnyB P md ops Q (fuel + 1) S listed a w :=
  ⟨fun h0 => (by rw [hr] at h0; cases h0), fun j hj => by
    rw [hr] at hj
    rw [List.mem_singleton.1 hj]
    refine wpOp_step ho (fun K' hK => h K' (fun a w S' hW => hK a w ?_))
    rw [if_pos hb]
    exact ⟨S', hW⟩⟩
/-- Two operations may come up next: both ways are walked. -/
theorem wpB_two {S : World → Prop} {i j : Nat} {o oj : Oper} {fuel : Nat} {listed : Array Bool} {a : Act} {w : World} (hr : Region.ready md ops listed = [i, j]) (ho : ops[i]? = some o) (hoj : ops[j]? = some oj)
    (h : ∀ K' : Act → World → Prop, Shut (∀ a w, S w → (S w → wpAnyB P md ops Q fuel S (listed.setIfInBounds i true) a w) → K' a w) → if Region.wanted o (yielded ops a.tmps) = true then Oper.wp P o a w K' Q else K' (a.put o.dst undef) w)
    (h2 : ∀ K' : Act → World → Prop, Shut (∀ a w, S w → (S w → wpAnyB P md ops Q fuel S (listed.setIfInBounds j true) a w) → K' a w) → if Region.wanted oj (yielded ops a.tmps) = true then Oper.wp P oj a w K' Q else K' (a.put oj.dst undef) w) :
    wpAnyB P md ops Q (fuel + 1) S listed a w :=
  ⟨fun h0 => (by rw [hr] at h0; cases h0), fun k hk => by
    rw [hr] at hk
    rcases List.mem_cons.1 hk with rfl | hk
    · refine wpOp_step ho (fun K' hK => h K' (fun a w hS hW => hK a w ?_))
      split
      · exact ⟨S, hW hS⟩
      · exact ⟨hS, hW hS⟩
    · rw [List.mem_singleton.1 hk]
      refine wpOp_step hoj (fun K' hK => h2 K' (fun a w hS hW => hK a w ?_))
      split
      · exact ⟨S, hW hS⟩
      · exact ⟨hS, hW hS⟩⟩
theorem wpB_firm {S : World → Prop} (S2 : World → Prop) (hS : ∀ w, S2 w → S w) : ∀ {fuel : Nat} {listed : Array Bool} {a : Act} {w : World}, wpAnyB P md ops Q fuel S2 listed a w → wpAnyB P md ops Q fuel S listed a w
  | 0, _, _, _, h => h
  | fuel + 1, _, _, _, h => ⟨h.1, fun i hi => wpOp_mono (fun a' w' h' => by
      split at h'
      · rw [if_pos (by assumption)]; exact h'
      · rw [if_neg (by assumption)]; exact ⟨hS _ h'.1, wpB_firm S2 hS h'.2⟩) (h.2 i hi)⟩
theorem wpB_done {S : World → Prop} {listed : Array Bool} {a : Act} {w : World} (hr : Region.ready md ops listed = []) (h : Q .normal a w) : ∀ fuel, wpAnyB P md ops Q fuel S listed a w
  | 0 => ⟨hr, h⟩
  | _ + 1 => ⟨fun _ => h, by rw [hr]; simp⟩
theorem wpB_start {id : Nat} {a : Act} {w : World} (S : World → Prop) (hm : P.follows .mixedOrders = true) (h : wpAnyB P .any ops Q ops.size S (Array.replicate ops.size false) a w.drew) : (Code.region id ops true).wp P Q a w :=
  wp_region_any hm (wpAny_of_B _ _ _ _ _ h)
end
theorem get_of_drop {α : Type} {l : List α} {i : Nat} {o : α} {r : List α} (h : l.drop i = o :: r) : l.toArray[i]? = some o := by
  have h2 : (l.drop i)[0]? = some o := by rw [h]; rfl
  rw [List.getElem?_drop] at h2
  simpa using h2
/-- One value in a new block. -/
theorem one_sees (W : World) (v : Value) (e : TypeId) : Sees (W.alloc (.cells #[v] e)) (fun k => k = W.heap.size) (some ⟨W.heap.size, 0, none⟩) [v] := by
  refine .inr ⟨_, rfl, rfl, fun j u hj => ?_⟩
  rw [add_at, Nat.zero_add, cellAt (blk_new W _)]
  simpa using hj
theorem own_take {w : World} {base e n m c : Nat} {A : Option Addr} {xs : List Value} (h : w.ownsRow base e 1 (.slice A n c) n xs) (hm : m ≤ n) : w.ownsRow base e 1 (.slice A m c) m (xs.take m) := by
  obtain ⟨h1, h2⟩ := h
  refine ⟨by rw [List.length_take]; omega, ?_⟩
  rcases h2 with ⟨hv, hn⟩ | ⟨g, cap, cur, hv, hg, hh, q1, q2, q3, q4⟩
  · injection hv with e1 e2 e3
    subst e1 e3
    have h0 : m = 0 := by omega
    subst h0
    exact .inl ⟨rfl, rfl⟩
  · injection hv with e1 e2 e3
    subst e1 e3
    refine .inr ⟨g, c, cur, rfl, hg, hh, by omega, q2, q3, ?_⟩
    rw [← q4, List.take_take]
    congr 1
    omega
end Go.Proofs.Ytfpjickdkkhndaa.C


/- Rows of one's own whose elements may point elsewhere: Vec; and append as a law over them. -/

namespace Go.Proofs.Ytfpjickdkkhndaa.C

set_option linter.unusedVariables false

set_option linter.unusedSimpArgs false

open Go.RowKit

/-- v is a row of one's own in S that holds xs; what its elements point to lies in D, and not in the row. -/
def Vec {α : Type} (d : Ty α) (e : TypeId) (w : World) (S D : Nat → Prop) (v : Value) (xs : List α) : Prop :=
  ∃ cells, w.ownsRow 0 e d.sz v xs.length cells ∧ (∀ k, v.ownBlock = some k → S k) ∧ Ty.Row d w (fun k => D k ∧ v.ownBlock ≠ some k ∧ k < w.heap.size) xs cells

theorem Vec.nil {α : Type} (d : Ty α) (e : TypeId) (w : World) (S D : Nat → Prop) : Vec d e w S D (.slice none 0 0) [] :=
  ⟨[], own_nil _ _ _, fun k hk => by simp [Value.ownBlock] at hk, Ty.Row.nil _ _ _⟩
theorem Vec.form {α : Type} {d : Ty α} {e : TypeId} {w : World} {S D : Nat → Prop} {v : Value} {xs : List α} (h : Vec d e w S D v xs) : ∃ A c, v = .slice A xs.length c := by
  obtain ⟨cells, h1, _⟩ := h
  obtain ⟨A, c, hv, _⟩ := own_sees h1
  exact ⟨A, c, hv⟩
theorem Vec.chg {α : Type} {d : Ty α} {e : TypeId} {w w' : World} {S D M : Nat → Prop} {v : Value} {xs : List α} (h : Vec d e w S D v xs) (hc : Chg M w w') (hv : ∀ k, v.ownBlock = some k → ¬ M k) (hD : ∀ k, D k → v.ownBlock ≠ some k → k < w.heap.size → ¬ M k) : Vec d e w' S D v xs := by
  obtain ⟨cells, h1, h2, h3⟩ := h
  exact ⟨cells, hc.own h1 hv, h2, (h3.chg hc (fun k hk => hD k hk.1 hk.2.1 hk.2.2)).mono (fun k hk => ⟨hk.1, hk.2.1, Nat.lt_of_lt_of_le hk.2.2 hc.size⟩)⟩
theorem Vec.mono {α : Type} {d : Ty α} {e : TypeId} {w : World} {S D S' D' : Nat → Prop} {v : Value} {xs : List α} (h : Vec d e w S D v xs) (hS : ∀ k, S k → k < w.heap.size → S' k) (hD : ∀ k, D k → k < w.heap.size → D' k) : Vec d e w S' D' v xs := by
  obtain ⟨cells, h1, h2, h3⟩ := h
  exact ⟨cells, h1, fun k hk => hS k (h2 k hk) (own_lt h1 k hk), h3.mono (fun k hk => ⟨hD k hk.1 hk.2.2, hk.2⟩)⟩
theorem Vec.lt {α : Type} {d : Ty α} {e : TypeId} {w : World} {S D : Nat → Prop} {v : Value} {xs : List α} (h : Vec d e w S D v xs) (k : Nat) (hk : v.ownBlock = some k) : k < w.heap.size := by
  obtain ⟨cells, h1, _⟩ := h
  exact own_lt h1 k hk
theorem Vec.inS {α : Type} {d : Ty α} {e : TypeId} {w : World} {S D : Nat → Prop} {v : Value} {xs : List α} (h : Vec d e w S D v xs) (k : Nat) (hk : v.ownBlock = some k) : S k := by
  obtain ⟨cells, _, h2, _⟩ := h
  exact h2 k hk
theorem Vec.ne {α : Type} {d : Ty α} {e : TypeId} {w : World} {S D : Nat → Prop} {v : Value} {xs : List α} (h : Vec d e w S D v xs) {g t : Nat} {cs : Array Value} {m : Nat × Nat} (hb : w.heap[g]? = some (.cells cs t m)) (hne : e ≠ t) : v.ownBlock ≠ some g := by
  obtain ⟨cells, h1, _⟩ := h
  exact own_ne h1 hb hne
/-- For reading. -/
theorem Vec.at {α : Type} {d : Ty α} {e : TypeId} {w : World} {S D : Nat → Prop} {A : Option Addr} {n c : Nat} {xs : List α} (h : Vec d e w S D (.slice A n c) xs) : Ty.At d w (fun k => S k ∨ D k) A n c xs := by
  obtain ⟨cells, h1, h2, h3⟩ := h
  have hn : n = xs.length := by
    obtain ⟨A', c', hv, _⟩ := own_sees h1
    injection hv
  subst hn
  obtain ⟨q1, q2, q3, q4⟩ := own_at h1
  exact ⟨rfl, q1, q2, q3, cells, q4.mono (fun k hk => .inl (h2 k hk)), h3.mono (fun k hk => .inr hk.1)⟩
/-- One element: its cells, and where they lie. -/
theorem Vec.get {α : Type} {d : Ty α} {e : TypeId} {w : World} {S D : Nat → Prop} {A : Option Addr} {n c : Nat} {xs : List α} (h : Vec d e w S D (.slice A n c) xs) (hs : 0 < d.sz) {i : Nat} {x : α} (hx : xs[i]? = some x) :
    ∃ g cs, A = some ⟨g, 0, none⟩ ∧ S g ∧ g < w.heap.size ∧ d.K w (fun k => D k ∧ k ≠ g ∧ k < w.heap.size) x cs ∧ ∀ j u, cs[j]? = some u → w.cell? ⟨g, i * d.sz + j, none⟩ = some u := by
  obtain ⟨cells, h1, h2, h3⟩ := h
  have hi : i < xs.length := by
    rcases Nat.lt_or_ge i xs.length with h | h
    · exact h
    · rw [List.getElem?_eq_none h] at hx; cases hx
  have hn : n = xs.length := by
    obtain ⟨A', c', hv, _⟩ := own_sees h1
    injection hv
  subst hn
  obtain ⟨g, hA, hg⟩ := own_form h1 (by omega)
  subst hA
  refine ⟨g, _, rfl, h2 g rfl, hg, (d.mono (h3.2 i x hx) (fun k hk => ⟨hk.1, fun e => hk.2.1 (by rw [e]; rfl), hk.2.2⟩)), fun j u hj => ?_⟩
  have hl := h1.1
  rw [List.getElem?_take] at hj
  split at hj
  · rename_i hjs
    rw [List.getElem?_drop] at hj
    have h4 : i * d.sz + j < xs.length * d.sz := by
      have : (i + 1) * d.sz ≤ xs.length * d.sz := Nat.mul_le_mul_right _ hi
      rw [Nat.add_mul, Nat.one_mul] at this
      omega
    rw [h1.cellAt (i * d.sz + j) h4]
    exact hj
  · cases hj

section

variable {P : Program} {ops : Array Oper} {rest : List Oper} {o : Oper} {a : Act} {Q : Exit → Act → World → Prop}
theorem Ty.Row.append {α : Type} {d : Ty α} {w : World} {S : Nat → Prop} {xs ys : List α} {cs ds : List Value} (h : Ty.Row d w S xs cs) (k : Ty.Row d w S ys ds) : Ty.Row d w S (xs ++ ys) (cs ++ ds) := by
  refine ⟨by rw [List.length_append, List.length_append, h.1, k.1, Nat.add_mul], fun i x hx => ?_⟩
  rcases Nat.lt_or_ge i xs.length with hi | hi
  · rw [List.getElem?_append_left hi] at hx
    have h2 : (i + 1) * d.sz ≤ cs.length := by rw [h.1]; exact Nat.mul_le_mul_right _ hi
    rw [Nat.add_mul, Nat.one_mul] at h2
    rw [List.drop_append_of_le_length (by omega), List.take_append_of_le_length (by rw [List.length_drop]; omega)]
    exact h.2 i x hx
  · rw [List.getElem?_append_right hi] at hx
    have h2 := k.2 _ x hx
    have h3 : i * d.sz = cs.length + (i - xs.length) * d.sz := by rw [h.1, ← Nat.add_mul]; congr 1; omega
    rw [h3, List.drop_append, List.drop_eq_nil_of_le (by omega), List.nil_append, Nat.add_sub_cancel_left]
    exact h2
theorem Ty.Row.one_ {α : Type} {d : Ty α} {w : World} {S : Nat → Prop} {x : α} {cs : List Value} (h : d.K w S x cs) : Ty.Row d w S [x] cs := by
  have := Ty.Row.snoc (Ty.Row.nil d w S) h
  simpa using this
theorem Vec.app_run {α : Type} {d : Ty α} (w : World) (t ty e : TypeId) (z : Value) (bytes : Nat) (ht : P.underlying t = some (.slice e))
    (hinfo : (P.info? e).map (fun i => (i.zero, i.size, i.bytes)) = some (some z, d.sz, bytes)) (hzs : z.cells.size = d.sz) (hsz : 0 < d.sz) (hb0 : 0 < bytes)
    {S D : Nat → Prop} {v : Value} {xs : List α} (hv : Vec d e w S D v xs) {A : Option Addr} {m c : Nat} {ys : List α} {news : List Value} {R : Nat → Prop} (hA : A = none → c = 0) (hmc : m ≤ c) (hm : m = ys.length) (hsee : Sees w R A news)
    (hrow : Ty.Row d w (fun k => D k ∧ v.ownBlock ≠ some k ∧ k < w.heap.size) ys news) (hbytes : (xs.length + m) * bytes ≤ 140737488355328) :
    ∃ A' c' w', (Builtin.append_ #[t, t] ty #[v, .slice A m c]).run P w = .ok (.slice A' (xs.length + m) c') w' ∧ Vec d e w' (fun k => S k ∨ w.heap.size ≤ k) D (.slice A' (xs.length + m) c') (xs ++ ys) ∧ Chg (fun k => v.ownBlock = some k) w w' := by
  obtain ⟨cells, h1, h2, h3⟩ := hv
  obtain ⟨v', w', hr, g1, g2, g3⟩ := Go.Proofs.Ytfpjickdkkhndaa.C.app_run (P := P) w t ty e z d.sz bytes ht hinfo hzs hsz hb0 v xs.length cells h1 A m c news R hA hmc (by rw [hrow.1, hm]) hsee hrow.one hbytes
  obtain ⟨A', c', rfl, _⟩ := own_sees g1
  refine ⟨A', c', w', hr, ⟨cells ++ news, by rw [List.length_append, ← hm]; exact g1, fun k hk => ?_, ?_⟩, g2⟩
  · rcases g3 k hk with h | h
    · exact .inl (h2 k h)
    · exact .inr h
  · refine ((h3.append hrow).chg g2 (fun k hk => hk.2.1)).mono (fun k hk => ⟨hk.1, fun hv => ?_, Nat.lt_of_lt_of_le hk.2.2 g2.size⟩)
    rcases g3 k hv with h | h
    · exact hk.2.1 h
    · have := hk.2.2; omega
theorem vec_list {α : Type} {d : Ty α} (w : World) (hgd : o.guard = none) (s x : Operand) (t e : TypeId) (z : Value) (bytes : Nat)
    (ho : o.op = .call { callee := .builtin .append, args := #[s, x], argTypes := #[t, t] }) (ht : P.underlying t = some (.slice e))
    (hinfo : (P.info? e).map (fun i => (i.zero, i.size, i.bytes)) = some (some z, d.sz, bytes)) (hzs : z.cells.size = d.sz) (hsz : 0 < d.sz) (hb0 : 0 < bytes)
    {S D : Nat → Prop} (v : Value) {xs : List α} (hs : a.eval s = v) (hv : Vec d e w S D v xs) (A : Option Addr) (m c : Nat) {ys : List α} {news : List Value} {R : Nat → Prop} (hx : a.eval x = .slice A m c) (hA : A = none → c = 0) (hmc : m ≤ c) (hm : m = ys.length) (hsee : Sees w R A news)
    (hrow : Ty.Row d w (fun k => D k ∧ v.ownBlock ≠ some k ∧ k < w.heap.size) ys news) (hbytes : (xs.length + m) * bytes ≤ 140737488355328)
    (h : ∀ A' c' w', Vec d e w' (fun k => S k ∨ w.heap.size ≤ k) D (.slice A' (xs.length + m) c') (xs ++ ys) → Chg (fun k => v.ownBlock = some k) w w' → wpList P ops Q rest (a.put o.dst (.slice A' (xs.length + m) c')) w') :
    wpList P ops Q (o :: rest) a w := by
  refine wpList_plain hgd fun K hK => ?_
  obtain ⟨A', c', w', hr, h2, h3⟩ := hv.app_run (P := P) w t o.type e z bytes ht hinfo hzs hsz hb0 hA hmc hm hsee hrow hbytes
  unfold Oper.wp execOp
  simp only [ho, resolve, invoke, builtin, Sem.run_bind, Sem.run_pure, Result.andThen_ok, List.map_toArray, List.map_cons, List.map_nil, hs, hx, hr]
  exact hK _ _ (h A' c' w' h2 h3)
theorem vec_step {E : Prop} {α : Type} {d : Ty α} (w : World) {K : Act → World → Prop} (hgd : o.guard = none) (s x : Operand) (t e : TypeId) (z : Value) (bytes : Nat)
    (ho : o.op = .call { callee := .builtin .append, args := #[s, x], argTypes := #[t, t] }) (ht : P.underlying t = some (.slice e))
    (hinfo : (P.info? e).map (fun i => (i.zero, i.size, i.bytes)) = some (some z, d.sz, bytes)) (hzs : z.cells.size = d.sz) (hsz : 0 < d.sz) (hb0 : 0 < bytes)
    {S D : Nat → Prop} (v : Value) {xs : List α} (hs : a.eval s = v) (hv : Vec d e w S D v xs) (A : Option Addr) (m c : Nat) {ys : List α} {news : List Value} {R : Nat → Prop} (hx : a.eval x = .slice A m c) (hA : A = none → c = 0) (hmc : m ≤ c) (hm : m = ys.length) (hsee : Sees w R A news)
    (hrow : Ty.Row d w (fun k => D k ∧ v.ownBlock ≠ some k ∧ k < w.heap.size) ys news) (hbytes : (xs.length + m) * bytes ≤ 140737488355328)
    (h : ∀ A' c' w', Vec d e w' (fun k => S k ∨ w.heap.size ≤ k) D (.slice A' (xs.length + m) c') (xs ++ ys) → Chg (fun k => v.ownBlock = some k) w w' → K (a.put o.dst (.slice A' (xs.length + m) c')) w') :
    if Region.wanted o (yielded ops a.tmps) = true then Oper.wp P o a w K Q else E := by
  have hw : Region.wanted o (yielded ops a.tmps) = true := by simp [Region.wanted, hgd]
  rw [if_pos hw]
  obtain ⟨A', c', w', hr, h2, h3⟩ := hv.app_run (P := P) w t o.type e z bytes ht hinfo hzs hsz hb0 hA hmc hm hsee hrow hbytes
  unfold Oper.wp execOp
  simp only [ho, resolve, invoke, builtin, Sem.run_bind, Sem.run_pure, Result.andThen_ok, List.map_toArray, List.map_cons, List.map_nil, hs, hx, hr]
  exact h A' c' w' h2 h3
end

/-- append within the room: in place. -/
theorem room_run {P : Program} (w : World) (t ty e : TypeId) (z : Value) (size bytes : Nat) (ht : P.underlying t = some (.slice e)) (hinfo : (P.info? e).map (fun i => (i.zero, i.size, i.bytes)) = some (some z, size, bytes))
    {b cap : Nat} {cur : Array Value} (hb : w.heap[b]? = some (.cells cur e (0, 0))) (hcur : cur.size = cap * size) (n : Nat) (A : Option Addr) (m c : Nat) (news : List Value) (R : Nat → Prop) (hA : A = none → c = 0) (hmc : m ≤ c) (hl : news.length = m * size) (hsee : Sees w R A news) (h1 : ∀ u ∈ news, u.oneCell' = true) (hroom : n + m ≤ cap) :
    (Builtin.append_ #[t, t] ty #[.slice (some ⟨b, 0, none⟩) n cap, .slice A m c]).run P w = .ok (.slice (some ⟨b, 0, none⟩) (n + m) cap) (w.setCells b (n * size) news) := by
  obtain ⟨i, hi, hz0, hz1, hz2⟩ := info_parts hinfo
  subst hz1
  cases A with
  | none =>
    have hc := hA rfl
    subst hc
    have hm : m = 0 := by omega
    subst hm
    have hn : news = [] := List.eq_nil_of_length_eq_zero (by simpa using hl)
    subst hn
    have hg : (0 : Nat) = 0 := rfl
    simp [Builtin.append_, run_underlying ht, sizeOf, typeInfo, hi, Builtin.lenOf, World.setCells, Builtin.firstCells, show n ≤ cap by omega, storeCells]
  | some ad =>
    have hnews : ∀ j u, news[j]? = some u → w.cell? (ad.add j) = some u := by
      rcases hsee with h | ⟨a', ha, _, hx⟩
      · intro j u hj; rw [h] at hj; simp at hj
      · cases ha; exact hx
    have hfit : n * i.size + news.length ≤ cur.size := by rw [hl, hcur, ← Nat.add_mul]; exact Nat.mul_le_mul_right _ hroom
    have := run_append_room_cells (P := P) w t ty e i ht hi b 0 n cap ad m c news hl hnews h1 hroom (fun j hj => by rw [cellAt hb]; simp; omega) (fun j hj => freeAt hb _)
    rw [Nat.zero_add] at this
    exact this
/-- clear(s) of elements of whatever size. -/
theorem clear_run {P : Program} (w : World) (t e ty : TypeId) (z : Value) (size : Nat) (ht : P.underlying t = some (.slice e)) (hv : ∀ w, (zeroValue e).run P w = .ok z w) (hz : z.cells.size = size) (hone : ∀ u ∈ z.cells, u.oneCell' = true) (h0 : 0 < size)
    {b : Nat} {cur : Array Value} (hb : w.heap[b]? = some (.cells cur e (0, 0))) (o n c : Nat) (hn : 0 < n) (hfit : o + n * size ≤ cur.size) :
    ∃ zs : List Value, zs.length = n * size ∧ (Builtin.clear_ #[t] ty #[.slice (some ⟨b, o, none⟩) n c]).run P w = .ok (.tuple #[]) (w.setCells b o zs) := by
  have hzl : (Builtin.zeroCells z.cells n).toList.length = n * size := by simp [Builtin.zeroCells, hz]
  have hz1 : ∀ v ∈ (Builtin.zeroCells z.cells n).toList, v.oneCell' = true := by
    intro v hv
    simp only [Builtin.zeroCells, Array.toList_map, List.mem_map] at hv
    obtain ⟨i, hi, rfl⟩ := hv
    have hlt : i % z.cells.size < z.cells.size := Nat.mod_lt _ (by omega)
    rw [getElem!_pos z.cells _ hlt]
    exact hone _ (Array.getElem_mem hlt)
  have hst := run_storeCells_cells (P := P) b o (Builtin.zeroCells z.cells n).toList 0 w (by intro j hj; rw [cellAt hb]; simp; omega) (by intro j hj; exact freeAt hb _) hz1
  simp only [Nat.add_zero] at hst
  refine ⟨_, hzl, ?_⟩
  obtain ⟨m, rfl⟩ : ∃ m, n = m + 1 := ⟨n - 1, by omega⟩
  simp [Builtin.clear_, run_underlying ht, hv, hst]
/-- A literal in a new block. -/
theorem new_sees (W : World) (cs : Array Value) (e : TypeId) : Sees (W.alloc (.cells cs e)) (fun k => k = W.heap.size) (some ⟨W.heap.size, 0, none⟩) cs.toList := by
  refine .inr ⟨_, rfl, rfl, fun j u hj => ?_⟩
  rw [add_at, Nat.zero_add, cellAt (blk_new W _)]
  simpa using hj
end Go.Proofs.Ytfpjickdkkhndaa.C


/- append(b, s...), s a string: as a law over what may have changed. -/

namespace Go.Proofs.Ytfpjickdkkhndaa.C

set_option linter.unusedVariables false

set_option linter.unusedSimpArgs false

open Go.Lib Go.RowKit

/-- A string's bytes. -/
def bts (s : ByteArray) : List UInt8 := s.data.toList
theorem bts_length (s : ByteArray) : (bts s).length = s.size := by unfold bts; rw [Array.length_toList]; rfl
theorem bts_bstr (l : List UInt8) : bts (bstr l) = l := rfl
theorem bstr_bts (s : ByteArray) : bstr (bts s) = s := rfl
theorem bts_inj {a b : ByteArray} (h : bts a = bts b) : a = b := by rw [← bstr_bts a, h, bstr_bts]
theorem strCells_bts (s : ByteArray) : strCells s = u8s (bts s) := rfl

section

variable {P : Program} {ops : Array Oper} {rest : List Oper} {o : Oper} {a : Act} {Q : Exit → Act → World → Prop}
theorem appstr_run (w : World) (t u ty e : TypeId) (ht : P.underlying t = some (.slice e)) (hu : P.underlying u = some .string)
    (hinfo : (P.info? e).map (fun i => (i.zero, i.size, i.bytes)) = some (some (.int .u8 0), 1, 1))
    (v : Value) (n : Nat) (xs : List Value) (hown : w.ownsRow 0 e 1 v n xs) (s : ByteArray) (hbytes : n + s.size ≤ 140737488355328) :
    ∃ v' w', (Builtin.append_ #[t, u] ty #[v, .string s]).run P w = .ok v' w' ∧ w'.ownsRow 0 e 1 v' (n + s.size) (xs ++ u8s (bts s)) ∧ Chg (fun k => v.ownBlock = some k) w w' ∧ (∀ k, v'.ownBlock = some k → v.ownBlock = some k ∨ w.heap.size ≤ k) := by
  obtain ⟨i, hi, hz, hsize, hby⟩ := info_parts hinfo
  rw [← strCells_bts]
  have hxl : xs.length = n := by simpa using hown.1
  have hlen : (xs ++ strCells s).length = (n + s.size) * 1 := by rw [List.length_append, hxl, strCells_length, Nat.mul_one]
  have hm63 : n + s.size ≤ maxLen := by simp [maxLen]; omega
  have grown : ∀ (old : Nat), old < n + s.size → ∀ (row : Option Nat),
      (w.drew.alloc (.cells (xs.toArray ++ (strCells s).toArray ++ Builtin.zeroCells (Value.int .u8 0).cells (grownCap w (n + s.size) old e - (n + s.size))) e)).ownsRow 0 e 1
        (.slice (some ⟨w.heap.size, 0, none⟩) (n + s.size) (grownCap w (n + s.size) old e)) (n + s.size) (xs ++ strCells s) ∧
      w.grownBy (w.drew.alloc (.cells (xs.toArray ++ (strCells s).toArray ++ Builtin.zeroCells (Value.int .u8 0).cells (grownCap w (n + s.size) old e - (n + s.size))) e)) row := by
    intro old ho row
    have hge := grownCap_ge w (n + s.size) old e
    have hcm : grownCap w (n + s.size) old e ≤ maxLen := grownCap_le_maxLen w (n + s.size) old e hm63
    refine ⟨⟨hlen, .inr ⟨w.heap.size, _, _, rfl, Nat.zero_le _, heap_alloc_new w.drew _, hge, hcm, ?_, ?_⟩⟩, ⟨rfl, rfl, rfl, by simp, fun k hk _ => Below.heap_alloc w.drew _ k hk⟩⟩
    · have hz1 : (Value.int IntKind.u8 0).cells.size = 1 := rfl
      simp only [Array.size_append, List.size_toArray, size_zeroCells, hz1, hxl, strCells_length]
      omega
    · simp only [Array.toList_append, List.append_assoc]
      rw [← List.append_assoc, ← hlen]
      exact List.take_left
  have fin : ∀ {v' : Value} {w' : World}, w.grownBy w' v.ownBlock → Chg (fun k => v.ownBlock = some k) w w' := fun h => (Chg.refl _ w).grown h (fun k hk _ => hk)
  rcases hown.2 with ⟨rfl, rfl⟩ | ⟨g, cap, cur, rfl, hbg, hg, hnc, hcm, hcs, htake⟩
  · have hx : xs = [] := List.eq_nil_of_length_eq_zero hxl
    subst hx
    by_cases hm : s.size = 0
    · have hn : strCells s = [] := List.eq_nil_of_length_eq_zero (by rw [strCells_length]; exact hm)
      refine ⟨.slice none 0 0, w, ?_, by rw [hm, hn]; exact World.ownsRow_nil w 0 e 1, Chg.refl _ _, fun k hk => .inl hk⟩
      have hf := run_firstCells_string (P := P) w 1 s
      rw [hm] at hf
      simp [Builtin.append_, run_underlying ht, run_underlying hu, sizeOf, typeInfo, hi, hsize, Builtin.lenOf, hm, hf]
    · have hr := run_append_nil_string (P := P) w t u ty e i (.int .u8 0) ht hu hi hz s (by omega) (by omega) (by rw [hby]; omega)
      have hgr := grown 0 (by omega) (Value.ownBlock (.slice none 0 0))
      simp only [Nat.zero_add, List.nil_append, Array.empty_append] at hgr ⊢
      have e1 : (s.data.map fun b => Value.int .u8 b.toNat) = (strCells s).toArray := by
        apply Array.ext'
        simp [strCells]
      rw [e1] at hr
      exact ⟨_, _, hr, hgr.1, fin (v' := .slice none 0 0) hgr.2, fun k hk => .inr (by simp [Value.ownBlock] at hk; omega)⟩
  · by_cases hroom : n + s.size ≤ cap
    · have hcs' : cur.size = cap := by simpa using hcs
      have hr := run_append_room_string (P := P) w t u ty e i ht hu hi hsize g n cap cur hg s hroom (by omega)
      refine ⟨_, _, hr, ⟨hlen, .inr ⟨g, cap, _, rfl, hbg, setRow_heap w g cur _ e _ hg, hroom, hcm, ?_, ?_⟩⟩, fin (v' := .slice none 0 0) ⟨rfl, rfl, rfl, by simp, fun k _ hk => setRow_other w g k _ (fun e => hk (by simp [Value.ownBlock, e]))⟩, fun k hk => .inl hk⟩
      · simp only [List.size_toArray, List.length_append, List.length_take, List.length_drop, Array.length_toList, strCells_length]
        omega
      · have ht' : cur.toList.take n = xs := by simpa using htake
        rw [ht', ← hlen]
        exact List.take_left
    · have holds : ∀ j u, xs[j]? = some u → w.cell? ((⟨g, 0, none⟩ : Addr).add j) = some u := hown.cells (g := g) rfl
      have hr := run_append_grow_string (P := P) w t u ty e i (.int .u8 0) ht hu hi hz ⟨g, 0, none⟩ n cap xs (by rw [hsize]; simpa using hxl) holds s (by omega) (by omega) (by rw [hby]; exact growslice_fits (by omega) (by omega))
      have hgr := grown cap (by omega) (Value.ownBlock (.slice (some ⟨g, 0, none⟩) n cap))
      exact ⟨_, _, hr, hgr.1, fin (v' := .slice none 0 0) hgr.2, fun k hk => .inr (by simp [Value.ownBlock] at hk; omega)⟩
theorem appstr_list (w : World) (hgd : o.guard = none) (sl x : Operand) (t u e : TypeId)
    (ho : o.op = .call { callee := .builtin .append, args := #[sl, x], argTypes := #[t, u] }) (ht : P.underlying t = some (.slice e)) (hu : P.underlying u = some .string)
    (hinfo : (P.info? e).map (fun i => (i.zero, i.size, i.bytes)) = some (some (.int .u8 0), 1, 1))
    (v : Value) (n : Nat) (xs : List Value) (hs : a.eval sl = v) (hown : w.ownsRow 0 e 1 v n xs) (s : ByteArray) (hx : a.eval x = .string s) (hbytes : n + s.size ≤ 140737488355328)
    (h : ∀ A' c' w', w'.ownsRow 0 e 1 (.slice A' (n + s.size) c') (n + s.size) (xs ++ u8s (bts s)) → Chg (fun k => v.ownBlock = some k) w w' → (∀ k, (Value.slice A' (n + s.size) c').ownBlock = some k → v.ownBlock = some k ∨ w.heap.size ≤ k) → wpList P ops Q rest (a.put o.dst (.slice A' (n + s.size) c')) w') :
    wpList P ops Q (o :: rest) a w := by
  refine wpList_plain hgd fun K hK => ?_
  obtain ⟨v', w', hr, h2, h3, h4⟩ := appstr_run (P := P) w t u o.type e ht hu hinfo v n xs hown s hbytes
  unfold Oper.wp execOp
  simp only [ho, resolve, invoke, builtin, Sem.run_bind, Sem.run_pure, Result.andThen_ok, List.map_toArray, List.map_cons, List.map_nil, hs, hx, hr]
  obtain ⟨A', c', rfl, _⟩ := own_sees h2
  exact hK _ _ (h A' c' w' h2 h3 h4)
theorem appstr_step {E : Prop} (w : World) {K : Act → World → Prop} (hgd : o.guard = none) (sl x : Operand) (t u e : TypeId)
    (ho : o.op = .call { callee := .builtin .append, args := #[sl, x], argTypes := #[t, u] }) (ht : P.underlying t = some (.slice e)) (hu : P.underlying u = some .string)
    (hinfo : (P.info? e).map (fun i => (i.zero, i.size, i.bytes)) = some (some (.int .u8 0), 1, 1))
    (v : Value) (n : Nat) (xs : List Value) (hs : a.eval sl = v) (hown : w.ownsRow 0 e 1 v n xs) (s : ByteArray) (hx : a.eval x = .string s) (hbytes : n + s.size ≤ 140737488355328)
    (h : ∀ A' c' w', w'.ownsRow 0 e 1 (.slice A' (n + s.size) c') (n + s.size) (xs ++ u8s (bts s)) → Chg (fun k => v.ownBlock = some k) w w' → (∀ k, (Value.slice A' (n + s.size) c').ownBlock = some k → v.ownBlock = some k ∨ w.heap.size ≤ k) → K (a.put o.dst (.slice A' (n + s.size) c')) w') :
    if Region.wanted o (yielded ops a.tmps) = true then Oper.wp P o a w K Q else E := by
  have hw : Region.wanted o (yielded ops a.tmps) = true := by simp [Region.wanted, hgd]
  rw [if_pos hw]
  obtain ⟨v', w', hr, h2, h3, h4⟩ := appstr_run (P := P) w t u o.type e ht hu hinfo v n xs hown s hbytes
  unfold Oper.wp execOp
  simp only [ho, resolve, invoke, builtin, Sem.run_bind, Sem.run_pure, Result.andThen_ok, List.map_toArray, List.map_cons, List.map_nil, hs, hx, hr]
  obtain ⟨A', c', rfl, _⟩ := own_sees h2
  exact h A' c' w' h2 h3 h4
end

end Go.Proofs.Ytfpjickdkkhndaa.C


/- Numbers of six bytes as plain data. No program in sight. -/

namespace Go.Proofs.Ytfpjickdkkhndaa.Pa

set_option linter.unusedVariables false

/-- The six bytes of a number that is one more, from the greatest on. -/
def six (m : Nat) : List UInt8 := [UInt8.ofNat (m / 2 ^ 40), UInt8.ofNat (m / 2 ^ 32), UInt8.ofNat (m / 2 ^ 24), UInt8.ofNat (m / 2 ^ 16), UInt8.ofNat (m / 2 ^ 8), UInt8.ofNat m]
theorem six_len (m : Nat) : (six m).length = 6 := rfl
def val (l : List UInt8) : Nat := l.foldl (fun v x => v * 256 + x.toNat) 0
theorem toNat_ofNat (m : Nat) : (UInt8.ofNat m).toNat = m % 256 := by simp
theorem val_six {m : Nat} (h : m < 2 ^ 48) : val (six m) = m := by
  simp only [val, six, List.foldl_cons, List.foldl_nil, toNat_ofNat]
  omega
theorem val_lt : ∀ {l : List UInt8}, l.length = 6 → val l < 2 ^ 48
  | [a, b, c, d, e, f], _ => by
    have h := fun x : UInt8 => x.toNat_lt
    have ha := h a; have hb := h b; have hc := h c; have hd := h d; have he := h e; have hf := h f
    simp only [val, List.foldl_cons, List.foldl_nil]
    omega
theorem six_val : ∀ {l : List UInt8}, l.length = 6 → six (val l) = l
  | [a, b, c, d, e, f], _ => by
    have h := fun x : UInt8 => x.toNat_lt
    have ha := h a; have hb := h b; have hc := h c; have hd := h d; have he := h e; have hf := h f
    have key : ∀ {m : Nat} {x : UInt8}, m % 256 = x.toNat → UInt8.ofNat m = x := fun {m x} e => UInt8.toNat_inj.1 (by rw [toNat_ofNat]; exact e)
    simp only [val, six, List.foldl_cons, List.foldl_nil]
    refine List.cons_eq_cons.2 ⟨key (by omega), List.cons_eq_cons.2 ⟨key (by omega), List.cons_eq_cons.2 ⟨key (by omega), List.cons_eq_cons.2 ⟨key (by omega), List.cons_eq_cons.2 ⟨key (by omega), List.cons_eq_cons.2 ⟨key (by omega), rfl⟩⟩⟩⟩⟩⟩
end Go.Proofs.Ytfpjickdkkhndaa.Pa


/- Rules, entries and records as plain data, their bytes, and how they are read. No program in sight. -/

namespace Go.Proofs.Ytfpjickdkkhndaa.Pa

set_option linter.unusedVariables false

open Go.Proofs.Ytfpjickdkkhndaa.C

structure Rule where
  id : Int
  pri : Int
  act : Int
  scope : Int
  pat : ByteArray
deriving DecidableEq
structure Entry where
  view : Int
  client : Int
  request : Int
  dflt : Int
  closed : Int
  fuel : Int
  stack : Int
  put : List Rule
  drop : List Int
deriving DecidableEq

/-- A number's bytes. -/
def num (n : Int) : List UInt8 := six ((n + 1) % 281474976710656).toNat
theorem num_len (n : Int) : (num n).length = 6 := rfl
def ruleB (r : Rule) : List UInt8 := num r.id ++ num r.pri ++ num r.act ++ num r.scope ++ num r.pat.size ++ bts r.pat
def entryB (e : Entry) : List UInt8 :=
  num e.view ++ num e.client ++ num e.request ++ num e.dflt ++ num e.closed ++ num e.fuel ++ num e.stack ++ num e.put.length ++ e.put.flatMap ruleB ++ num e.drop.length ++ e.drop.flatMap num
def logB (l : List Entry) : List UInt8 := num l.length ++ l.flatMap entryB

/-- A reader: what is left; none: it lacks. -/
def rdNum (b : List UInt8) : Option (Int × List UInt8) := if b.length < 6 then none else some ((val (b.take 6) : Int) - 1, b.drop 6)
theorem rdNum_num {n : Int} (h0 : -1 ≤ n) (h1 : n < 281474976710655) (b : List UInt8) : rdNum (num n ++ b) = some (n, b) := by
  have hm : (n + 1) % 281474976710656 = n + 1 := Int.emod_eq_of_lt (by omega) (by omega)
  unfold rdNum
  rw [if_neg (by rw [List.length_append, num_len]; omega), List.take_left' (num_len n), List.drop_left' (num_len n)]
  unfold num
  rw [hm, val_six (by omega)]
  congr 2
  omega

def rdList {α : Type} (rd : List UInt8 → Option (α × List UInt8)) : Nat → List UInt8 → Option (List α × List UInt8)
  | 0, b => some ([], b)
  | n + 1, b => match rd b with
    | none => none
    | some (x, b') => match rdList rd n b' with
      | none => none
      | some (l, b'') => some (x :: l, b'')
theorem rdList_all {α : Type} {rd : List UInt8 → Option (α × List UInt8)} {wr : α → List UInt8} : ∀ {l : List α}, (∀ x ∈ l, ∀ b, rd (wr x ++ b) = some (x, b)) → ∀ b, rdList rd l.length (l.flatMap wr ++ b) = some (l, b)
  | [], _, b => rfl
  | x :: l, h, b => by
    have h1 := h x (List.mem_cons_self ..)
    have ih := rdList_all (rd := rd) (wr := wr) (l := l) (fun y hy => h y (List.mem_cons_of_mem _ hy))
    show rdList rd (l.length + 1) ((wr x ++ l.flatMap wr) ++ b) = _
    unfold rdList
    rw [List.append_assoc, h1]
    simp only
    rw [ih]
/-- How many: no less than none, no more than there is room for. -/
def rdCount (b : List UInt8) : Option (Nat × List UInt8) := match rdNum b with
  | none => none
  | some (n, b') => if n < 0 ∨ (b'.length : Int) < n then none else some (n.toNat, b')
end Go.Proofs.Ytfpjickdkkhndaa.Pa


/- Readers as plain data: laws of rdList, rdNum, rdCount. No program in sight. -/

namespace Go.Proofs.Ytfpjickdkkhndaa.Pa

set_option linter.unusedVariables false

theorem rdList_succ {α : Type} (rd : List UInt8 → Option (α × List UInt8)) (n : Nat) (b : List UInt8) : rdList rd (n + 1) b = (rd b).bind fun q => (rdList rd n q.2).map fun r => (q.1 :: r.1, r.2) := by
  rw [rdList]
  cases rd b with
  | none => rfl
  | some q =>
    obtain ⟨x, b'⟩ := q
    simp only [Option.bind_some]
    cases rdList rd n b' with
    | none => rfl
    | some r => rfl
theorem rdList_snoc {α : Type} (rd : List UInt8 → Option (α × List UInt8)) : ∀ (n : Nat) (b : List UInt8), rdList rd (n + 1) b = (rdList rd n b).bind fun r => (rd r.2).map fun q => (r.1 ++ [q.1], q.2)
  | 0, b => by
    rw [rdList_succ]
    simp only [rdList, Option.bind_some, Option.map_some, List.nil_append]
    cases rd b <;> rfl
  | n + 1, b => by
    rw [rdList_succ, rdList_succ rd n]
    cases h : rd b with
    | none => rfl
    | some q =>
      simp only [Option.bind_some]
      rw [rdList_snoc rd n q.2]
      cases h2 : rdList rd n q.2 with
      | none => rfl
      | some r =>
        simp only [Option.bind_some, Option.map_some]
        cases rd r.2 <;> rfl
theorem rdList_stop {α : Type} {rd : List UInt8 → Option (α × List UInt8)} {X : Option (List UInt8)} {k : Nat} (h : X.bind (rdList rd k) = none) : ∀ {m : Nat}, k ≤ m → X.bind (rdList rd m) = none := by
  intro m hm
  obtain ⟨d, rfl⟩ := Nat.le.dest hm
  clear hm
  induction d with
  | zero => exact h
  | succ d ih =>
    cases X with
    | none => rfl
    | some b =>
      simp only [Option.bind_some] at *
      rw [← Nat.add_assoc, rdList_snoc, ih]
      rfl
theorem rdList_step {α : Type} {rd : List UInt8 → Option (α × List UInt8)} {X Y : Option (List UInt8)} {k : Nat} {us : List α} (h : X.bind (rdList rd k) = Y.map fun r => (us, r)) : X.bind (rdList rd (k + 1)) = (Y.bind rd).map fun q => (us ++ [q.1], q.2) := by
  have e : X.bind (rdList rd (k + 1)) = (X.bind (rdList rd k)).bind fun r => (rd r.2).map fun q => (r.1 ++ [q.1], q.2) := by
    cases X with
    | none => rfl
    | some b => exact rdList_snoc rd k b
  rw [e, h]
  cases Y with
  | none => rfl
  | some y =>
    simp only [Option.map_some, Option.bind_some]
/-- A count, of things that take so many bytes at least. -/
def rdCountL (least : Nat) (b : List UInt8) : Option (Nat × List UInt8) := (rdNum b).bind fun r => if r.1 < 0 ∨ (((r.2.length / least : Nat)) : Int) < r.1 then none else some (r.1.toNat, r.2)
/-- A list behind its count. -/
def rdSeq {α : Type} (least : Nat) (rd : List UInt8 → Option (α × List UInt8)) (b : List UInt8) : Option (List α × List UInt8) := (rdCountL least b).bind fun r => rdList rd r.1 r.2
/-- Bytes behind their count. -/
def rdText (b : List UInt8) : Option (List UInt8 × List UInt8) := (rdCountL 1 b).map fun r => (r.2.take r.1, r.2.drop r.1)
end Go.Proofs.Ytfpjickdkkhndaa.Pa


/- The codec in memory: one that writes (Wr), one that reads (Rd); numbers' pointers. -/

namespace Go.Proofs.Ytfpjickdkkhndaa.Pa

set_option linter.unusedVariables false

set_option linter.unusedSimpArgs false

open Go.RowKit Go.Proofs.Ytfpjickdkkhndaa.C

theorem info5 : (Try.prog.info? 5).map (fun i => (i.zero, i.size, i.bytes)) = some (some (.int .u8 0), 1, 1) := by kernel_rfl

/-- A codec that writes, at block g; v: its bytes' slice; it has written x; its memory lies in S. -/
structure Wr (w : World) (S : Nat → Prop) (g : Nat) (v : Value) (x : List UInt8) : Prop where
  inS : S g
  blk : w.heap[g]? = some (.cells #[v, .int .i64 0, .bool true, .bool false] 107 (0, 0))
  row : w.ownsRow 0 5 1 v x.length (u8s x)
  rowS : ∀ k, v.ownBlock = some k → S k
theorem Wr.ne {w : World} {S : Nat → Prop} {g : Nat} {v : Value} {x : List UInt8} (h : Wr w S g v x) : v.ownBlock ≠ some g := own_ne h.row h.blk (by decide)
theorem Wr.cells {w : World} {S : Nat → Prop} {g : Nat} {v : Value} {x : List UInt8} (h : Wr w S g v x) :
    w.cell? ⟨g, 0, none⟩ = some v ∧ w.cell? ⟨g, 1, none⟩ = some (.int .i64 0) ∧ w.cell? ⟨g, 2, none⟩ = some (.bool true) ∧ w.cell? ⟨g, 3, none⟩ = some (.bool false) := by
  refine ⟨?_, ?_, ?_, ?_⟩ <;> (rw [cellAt h.blk]; rfl)
theorem Wr.chg {w w' : World} {S M : Nat → Prop} {g : Nat} {v : Value} {x : List UInt8} (h : Wr w S g v x) (hc : Chg M w w') (hd : ∀ k, S k → ¬ M k) : Wr w' S g v x :=
  ⟨h.inS, hc.blk h.blk (hd _ h.inS), hc.own h.row (fun k hk => hd _ (h.rowS k hk)), h.rowS⟩
theorem Wr.mono {w : World} {S S' : Nat → Prop} {g : Nat} {v : Value} {x : List UInt8} (h : Wr w S g v x) (hS : ∀ k, k < w.heap.size → S k → S' k) : Wr w S' g v x :=
  ⟨hS _ (lt_of_blk h.blk) h.inS, h.blk, h.row, fun k hk => hS _ (own_lt h.row k hk) (h.rowS k hk)⟩
theorem Wr.form {w : World} {S : Nat → Prop} {g : Nat} {v : Value} {x : List UInt8} (h : Wr w S g v x) : ∃ A c, v = .slice A x.length c := by
  obtain ⟨A, c, hv, _⟩ := own_sees h.row
  exact ⟨A, c, hv⟩
theorem Wr.lt {w : World} {S : Nat → Prop} {g : Nat} {v : Value} {x : List UInt8} (h : Wr w S g v x) : g < w.heap.size := lt_of_blk h.blk

/-- More was written. -/
def WrTo (S : Nat → Prop) (g : Nat) (x : List UInt8) (w w' : World) : Prop := ∃ v, Wr w' (fun k => S k ∨ w.heap.size ≤ k) g v x ∧ Chg S w w'
theorem WrTo.refl {S : Nat → Prop} {g : Nat} {x : List UInt8} {w : World} {v : Value} (h : Wr w S g v x) : WrTo S g x w w := ⟨v, h.mono (fun _ _ h => .inl h), Chg.refl _ _⟩
theorem WrTo.trans {S : Nat → Prop} {g : Nat} {x y : List UInt8} {w w1 w2 : World} (h : WrTo S g x w w1) (k : WrTo (fun k => S k ∨ w.heap.size ≤ k) g y w1 w2) : WrTo S g y w w2 := by
  obtain ⟨v, h1, h2⟩ := h
  obtain ⟨v', k1, k2⟩ := k
  refine ⟨v', k1.mono (fun j _ hj => ?_), h2.trans k2 (fun j hj hlt => ?_)⟩
  · rcases hj with (hj | hj) | hj
    · exact .inl hj
    · exact .inr hj
    · exact .inr (Nat.le_trans h2.size hj)
  · rcases hj with hj | hj
    · exact hj
    · omega
/-- Ahead of it new memory was made, or a draw was taken. -/
theorem WrTo.pre {S S0 : Nat → Prop} {g : Nat} {y : List UInt8} {w w1 w2 : World} (h : Chg (fun _ => False) w w1) (k : WrTo S0 g y w1 w2) (hS : ∀ k, S0 k → S k ∨ w.heap.size ≤ k) : WrTo S g y w w2 := by
  obtain ⟨v', k1, k2⟩ := k
  refine ⟨v', k1.mono (fun j _ hj => ?_), (h.mono (fun _ h _ => h.elim)).trans k2 (fun j hj hlt => ?_)⟩
  · rcases hj with hj | hj
    · exact hS j hj
    · exact .inr (Nat.le_trans h.size hj)
  · rcases hS j hj with hj | hj
    · exact hj
    · omega
theorem WrTo.drewN {S : Nat → Prop} {g : Nat} {y : List UInt8} {w w' : World} (h : WrTo S g y w w') (q : Nat) : WrTo S g y w (w'.drewN q) := by
  obtain ⟨v, h1, h2⟩ := h
  exact ⟨v, h1.chg ((Chg.refl (fun _ => False) w').drewN q) (fun _ _ h => h), h2.drewN q⟩
theorem Wr.bound {w : World} {S : Nat → Prop} {g : Nat} {v : Value} {x : List UInt8} (h : Wr w S g v x) : Wr w (fun k => S k ∧ k < w.heap.size) g v x := h.mono (fun _ hl h => ⟨h, hl⟩)

/-- A codec that reads, at block g, the bytes b, which lie below B. -/
structure Rd (w : World) (B g : Nat) (A : Option Addr) (n c : Nat) (b : List UInt8) (at_ : Nat) (bad : Bool) : Prop where
  low : B ≤ g
  blk : w.heap[g]? = some (.cells #[.slice A n c, .int .i64 (at_ : Int), .bool false, .bool bad] 107 (0, 0))
  row : Ty.At Ty.u8 w (fun k => k < B) A n c b
  le : at_ ≤ n
theorem Rd.cells {w : World} {B g : Nat} {A : Option Addr} {n c : Nat} {b : List UInt8} {at_ : Nat} {bad : Bool} (h : Rd w B g A n c b at_ bad) :
    w.cell? ⟨g, 0, none⟩ = some (.slice A n c) ∧ w.cell? ⟨g, 1, none⟩ = some (.int .i64 (at_ : Int)) ∧ w.cell? ⟨g, 2, none⟩ = some (.bool false) ∧ w.cell? ⟨g, 3, none⟩ = some (.bool bad) := by
  refine ⟨?_, ?_, ?_, ?_⟩ <;> (rw [cellAt h.blk]; rfl)
theorem Rd.lt {w : World} {B g : Nat} {A : Option Addr} {n c : Nat} {b : List UInt8} {at_ : Nat} {bad : Bool} (h : Rd w B g A n c b at_ bad) : g < w.heap.size := lt_of_blk h.blk
theorem Rd.chg {w w' : World} {B g : Nat} {A : Option Addr} {n c : Nat} {b : List UInt8} {at_ : Nat} {bad : Bool} {M : Nat → Prop} (h : Rd w B g A n c b at_ bad) (hc : Chg M w w') (hM : ∀ k, M k → B ≤ k) (hg : ¬ M g) : Rd w' B g A n c b at_ bad :=
  ⟨h.low, hc.blk h.blk hg, h.row.chg hc (fun k hk hm => by have := hM k hm; omega), h.le⟩
/-- What is left to be read; none: it is bad. -/
def left (b : List UInt8) (at_ : Nat) (bad : Bool) : Option (List UInt8) := if bad then none else some (b.drop at_)
/-- Something was read by rd: the state behind, and what was read. -/
def RdTo {α : Type} (B g : Nat) (A : Option Addr) (n c : Nat) (b : List UInt8) (at_ : Nat) (bad : Bool) (rd : List UInt8 → Option (α × List UInt8)) (w' : World) (x : α) : Prop :=
  ∃ at' bad', Rd w' B g A n c b at' bad' ∧ (left b at_ bad).bind rd = (left b at' bad').map fun r => (x, r)

/-- Numbers in cells. -/
def ints (l : List Int) : List Value := l.map fun n => .int .i64 n
@[simp] theorem ints_length (l : List Int) : (ints l).length = l.length := by simp [ints]
theorem ints_at {l : List Int} {i : Nat} {n : Int} (h : l[i]? = some n) (r : List Value) : (ints l ++ r).toArray[i]? = some (.int .i64 n) := by
  have hi : i < l.length := by
    rcases Nat.lt_or_ge i l.length with h' | h'
    · exact h'
    · rw [List.getElem?_eq_none h'] at h; cases h
  rw [List.getElem?_toArray, List.getElem?_append_left (by simpa using hi), ints, List.getElem?_map, h]
  rfl
theorem ints_set (us : List Int) (v x : Int) (vs : List Int) (r : List Value) : (ints (us ++ v :: vs) ++ r).toArray.setIfInBounds us.length (.int .i64 x) = (ints (us ++ [x] ++ vs) ++ r).toArray := by
  apply Array.ext'
  rw [Array.toList_setIfInBounds]
  simp [ints, List.set_append]
/-- Pointers to a block's first cells. -/
def ptrs (p n : Nat) : List Value := (List.range n).map fun i => .pointer (some ⟨p, i, none⟩)
@[simp] theorem ptrs_length (p n : Nat) : (ptrs p n).length = n := by simp [ptrs]
theorem ptrs_at {p n i : Nat} (h : i < n) : (ptrs p n)[i]? = some (.pointer (some ⟨p, i, none⟩)) := by simp [ptrs, h]

/-- What a number may be that is written. -/
def NumOk (n : Int) : Prop := -1 ≤ n ∧ n ≤ 1099511627776

theorem six_get {m : Nat} {j : Nat} (h : j < 6) : (six m)[j]? = some (UInt8.ofNat (m / 2 ^ (40 - 8 * j))) := by
  have : j = 0 ∨ j = 1 ∨ j = 2 ∨ j = 3 ∨ j = 4 ∨ j = 5 := by omega
  rcases this with rfl | rfl | rfl | rfl | rfl | rfl <;> simp [six]
theorem num_take_succ (n : Int) {j : Nat} (h : j < 6) : (num n).take (j + 1) = (num n).take j ++ [UInt8.ofNat (((n + 1) % 281474976710656).toNat / 2 ^ (40 - 8 * j))] := by
  rw [List.take_add_one, num, six_get h]
  rfl
end Go.Proofs.Ytfpjickdkkhndaa.Pa


/- The contract of the codec's num that writes. -/

namespace Go.Proofs.Ytfpjickdkkhndaa.Pa

set_option linter.unusedVariables false

set_option linter.unusedSimpArgs false

open Go.RowKit Go.Proofs.Ytfpjickdkkhndaa.C

attribute [local go_sem] max2_int min2_int max_two min_two

theorem flatMap_num_len : ∀ l : List Int, (l.flatMap num).length = 6 * l.length
  | [] => rfl
  | x :: l => by
    rw [List.flatMap_cons, List.length_append, flatMap_num_len l, num_len, List.length_cons]
    omega
/-- The codec's bytes were appended to, and the new slice was stored. -/
theorem wr_set {w wr w2 : World} {S : Nat → Prop} {g : Nat} {v v' : Value} {x y : List UInt8} (hc : Chg S w wr) (h : Wr wr (fun k => S k ∨ w.heap.size ≤ k) g v x) (h1 : w2.ownsRow 0 5 1 v' y.length (u8s y))
    (h2 : Chg (fun i => v.ownBlock = some i) wr w2) (h3 : ∀ i, v'.ownBlock = some i → v.ownBlock = some i ∨ wr.heap.size ≤ i) : WrTo S g y w (w2.setCell ⟨g, 0, none⟩ v') := by
  have hb := h2.blk h.blk h.ne
  have hS : Chg S w w2 := hc.trans h2 (fun j hj hlt => by
    rcases h.rowS j hj with q | q
    · exact q
    · omega)
  have hvg : v'.ownBlock ≠ some g := fun e => by
    rcases h3 g e with q | q
    · exact h.ne q
    · have := h.lt; omega
  have hset : Chg (fun k => k = g) w2 (w2.setCell ⟨g, 0, none⟩ v') := (Chg.refl (fun k => k = g) w2).set (p := ⟨g, 0, none⟩) (fun _ => rfl) _
  refine ⟨v', ⟨h.inS, blk_set hb 0 v', hset.own h1 (fun k hk e => hvg (e ▸ hk)), fun k hk => ?_⟩, hS.trans hset (fun j hj hlt => ?_)⟩
  · rcases h3 k hk with q | q
    · exact h.rowS k q
    · exact .inr (Nat.le_trans hc.size q)
  · subst hj
    rcases h.inS with q | q
    · exact q
    · omega
theorem num_next {w wr : World} {S : Nat → Prop} {g k : Nat} {v : Value} {x : List UInt8} {vs : List Int} {u : Int} (hu : vs[k]? = some u) (h : Wr wr (fun k => S k ∨ w.heap.size ≤ k) g v (x ++ (vs.take k).flatMap num ++ (num u).take 6)) (hc : Chg S w wr) :
    WrTo S g (x ++ (vs.take (k + 1)).flatMap num) w wr := by
  refine ⟨v, ?_, hc⟩
  rw [List.take_of_length_le (l := num u) (by rw [num_len]; exact Nat.le_refl _)] at h
  rw [List.take_add_one, hu, Option.toList_some, List.flatMap_append, ← List.append_assoc, List.flatMap_singleton]
  exact h
theorem byte_eq {u : Int} (h : NumOk u) {j : Nat} (hj : j < 6) : IntKind.u8.wrap (IntKind.i64.wrap (u + 1) / 2 ^ (40 - 8 * (j : Int)).toNat) = (((UInt8.ofNat (((u + 1) % 281474976710656).toNat / 2 ^ (40 - 8 * j))).toNat : Nat) : Int) := by
  obtain ⟨h1, h2⟩ := h
  rw [IntWalk.i64_in _ (by omega), Int.emod_eq_of_lt (by omega) (by omega)]
  obtain ⟨m, hm⟩ : ∃ m : Nat, u + 1 = (m : Int) := ⟨(u + 1).toNat, by omega⟩
  rw [hm, show (40 - 8 * (j : Int)).toNat = 40 - 8 * j by omega, Int.toNat_natCast, toNat_ofNat]
  generalize 40 - 8 * j = e
  rw [show ((m : Int) / 2 ^ e) = ((m / 2 ^ e : Nat) : Int) by rw [Int.natCast_ediv]; norm_cast]
  generalize m / 2 ^ e = q
  simp [IntKind.wrap, IntKind.signed, IntKind.bits]
/-- One byte more was appended. -/
theorem byte_next {w wr w2 : World} {S : Nat → Prop} {g nk j c2 c3 : Nat} {A2 A3 : Option Addr} {y : List UInt8} {u : Int} (hj : j < 6) (hc : Chg S w wr) (h : Wr wr (fun k => S k ∨ w.heap.size ≤ k) g (.slice A2 nk c2) (y ++ (num u).take j)) (hnk : nk = (y ++ (num u).take j).length) (hu : NumOk u)
    (h1 : w2.ownsRow 0 5 1 (.slice A3 (nk + 1) c3) (nk + 1) (u8s (y ++ (num u).take j) ++ [.int .u8 (IntKind.u8.wrap (IntKind.i64.wrap (u + 1) / 2 ^ (40 - 8 * (j : Int)).toNat))]))
    (h2 : Chg (fun i => (Value.slice A2 nk c2).ownBlock = some i) wr w2) (h3 : ∀ i, (Value.slice A3 (nk + 1) c3).ownBlock = some i → (Value.slice A2 nk c2).ownBlock = some i ∨ wr.heap.size ≤ i) :
    WrTo S g (y ++ (num u).take (j + 1)) w (w2.setCell ⟨g, 0, none⟩ (.slice A3 (nk + 1) c3)) := by
  have e : (y ++ (num u).take j) ++ [UInt8.ofNat (((u + 1) % 281474976710656).toNat / 2 ^ (40 - 8 * j))] = y ++ (num u).take (j + 1) := by rw [num_take_succ u hj, List.append_assoc]
  have e2 : u8s (y ++ (num u).take j) ++ [.int .u8 (IntKind.u8.wrap (IntKind.i64.wrap (u + 1) / 2 ^ (40 - 8 * (j : Int)).toNat))] = u8s (y ++ (num u).take (j + 1)) := by
    rw [byte_eq hu hj, ← e, u8s_append (y ++ (num u).take j)]
    rfl
  have e3 : nk + 1 = (y ++ (num u).take (j + 1)).length := by
    rw [← e, hnk, List.length_append (bs := [_])]
    rfl
  rw [e2] at h1
  refine wr_set hc h ?_ h2 h3
  rw [← e3]
  exact h1
set_option maxHeartbeats 2000000 in
set_option maxRecDepth 100000 in
theorem num_w {w : World} {S R : Nat → Prop} {g p : Nat} {v : Value} {x : List UInt8} {vs : List Int} {A : Option Addr} {c : Nat} (h : Wr w S g v x) (hl : Sees w R A (ptrs p vs.length)) (hR : ∀ k, R k → ¬ S k)
    (hp : ∀ i u, vs[i]? = some u → w.cell? ⟨p, i, none⟩ = some (.int .i64 u)) (hpS : ¬ S p) (hok : ∀ u ∈ vs, NumOk u) (hx : x.length ≤ 1000000000) (hn : vs.length ≤ 7) :
    Calls Try.prog 75 #[.pointer (some ⟨g, 0, none⟩), .slice A vs.length c] w fun e w' => e = .returned (.tuple #[]) ∧ WrTo S g (x ++ vs.flatMap num) w w' := by
  have H := hid h
  have HL := hid hl
  have HR := hid hR
  have HP := hid hp
  have HOK := hid hok
  obtain ⟨n, hnl⟩ : ∃ n, n = vs.length := ⟨_, rfl⟩
  have HNL := hid hnl
  rw [← hnl] at hn ⊢
  have hn2 : (n : Int) ≤ 7 := by omega
  clear h hl hR hp hok hnl
  go_enter Try.func75, Try.ntmps75
  go_wp2_with fail
  go_loopw [12] (fun i wr => ∃ k : Nat, k ≤ n ∧ i = .int .i64 k ∧ WrTo S g (x ++ (vs.take k).flatMap num) w wr) (fun i _ => n - (intOf i).toNat)
  case atStart => exact ⟨0, Nat.zero_le _, rfl, by simpa using WrTo.refl H.out⟩
  case round =>
    obtain ⟨k, hk, rfl, hT⟩ := hrel
    by_cases hlt : k < n
    · have hlt2 : (k : Int) < (n : Int) := by omega
      obtain ⟨v1, h1, hC⟩ := hT
      have H1 := hid h1
      have HC := hid hC
      obtain ⟨u, hu⟩ : ∃ u, vs[k]? = some u := ⟨_, List.getElem?_eq_getElem (by have := HNL.out; omega)⟩
      have HU := hid hu
      have hpu : wr.cell? ⟨p, k, none⟩ = some (.int .i64 u) := hC.cell (HP.out k u hu) hpS
      obtain ⟨a, hA, ha⟩ : ∃ a, A = some a ∧ wr.cell? (a.add k) = some (.pointer (some ⟨p, k, none⟩)) := by
        rcases HL.out with h | ⟨a, hA, hS, hx⟩
        · exfalso
          have := congrArg List.length h
          rw [ptrs_length] at this
          have := HNL.out
          have e0 : ([] : List Value).length = 0 := rfl
          omega
        · exact ⟨a, hA, hC.cell (hx k _ (ptrs_at (by have := HNL.out; omega))) (by rw [add_block]; exact HR.out _ hS)⟩
      subst hA
      obtain ⟨d0, d1, d2, d3⟩ := h1.cells
      have hb := HOK.out u (List.mem_of_getElem? hu)
      have hb1 := hb.1
      have hb2 := hb.2
      clear h1 hC hu hb
      go_wp2_with fail
      go_loopw [6] (fun i wq => ∃ j : Nat, j ≤ 6 ∧ i = .int .i64 (40 - 8 * (j : Int)) ∧ WrTo S g (x ++ (vs.take k).flatMap num ++ (num u).take j) w wq) (fun i _ => (intOf i + 8).toNat)
      case atStart => exact ⟨0, Nat.zero_le _, rfl, by simpa using ⟨v1, H1.out, HC.out⟩⟩
      case round =>
        rename_i wr0
        obtain ⟨j, hj, rfl, hT⟩ := hrel
        obtain ⟨v2, h2, hC2⟩ := hT
        have H2 := hid h2
        have HC2 := hid hC2
        by_cases hjl : j < 6
        · obtain ⟨A2, c2, hv2⟩ := h2.form
          obtain ⟨nk, hnk⟩ : ∃ nk, nk = (x ++ (vs.take k).flatMap num ++ (num u).take j).length := ⟨_, rfl⟩
          have NK := hid hnk
          rw [← hnk] at hv2
          subst hv2
          have hnkb : nk ≤ 1000000100 := by
            have q1 := flatMap_num_len (vs.take k)
            have q2 := num_len u
            rw [hnk, List.length_append, List.length_append, q1, List.length_take, List.length_take, q2]
            omega
          obtain ⟨M, hMM⟩ : ∃ M : Nat → Prop, ∀ i, M i ↔ (Value.slice A2 nk c2).ownBlock = some i := ⟨_, fun _ => Iff.rfl⟩
          have MM := hid hMM
          have hj0 : (0 : Int) ≤ 40 - 8 * (j : Int) := by omega
          obtain ⟨d0, d1, d2, d3⟩ := h2.cells
          have hcell0 : ∀ wx, Chg M wr wx → wx.cell? ⟨g, 0, none⟩ = some (.slice A2 nk c2) := fun wx hx => hx.cell d0 (fun h => H2.out.ne ((MM.out _).1 h))
          have hcellp : ∀ wx, Chg M wr wx → wx.cell? ⟨p, k, none⟩ = some (.int .i64 u) := fun wx hx => hx.cell (HC2.out.cell (HP.out k u HU.out) hpS) (fun h => by
            rcases H2.out.rowS _ ((MM.out _).1 h) with q | q
            · exact hpS q
            · have := World.block_lt_of_cell? w _ (HP.out k u HU.out); simp only at this q; omega)
          clear h2 hC2 hnk hMM d0 d1 d2 d3
          go_wp2_with fail
          refine wpB_start (fun wx : World => Chg M wr wx) (by kernel_rfl) ?_
          have hHeld : (fun wx : World => Chg M wr wx) _ := (by first | assumption | exact Chg.drew (Chg.refl _ _) | (show _ ∧ _; refine ⟨?_, ?_⟩ <;> assumption) | (first | assumption | exact hHeld.alloc _ | exact hHeld.trans h2 (fun _ h _ => (MM.out _).2 h)))
          -- 0: t24 := move t0 : 105
          refine wpB_take (i := 0) (v := ?_) (get_of_drop rfl) (by kernel_rfl) (by kernel_rfl) (by kernel_rfl) (by kernel_rfl) (fun _ _ _ h => h) (Or.inl ⟨by rfl, ?_⟩) hHeld ?_
          rotate_left
          · (intro w hSw; (try dsimp only at hSw); go_simp <;> with_reducible rfl)
          try simp only [Act.put, List.setIfInBounds_toArray, List.set_cons_zero, List.set_cons_succ]
          -- 1: t25 := move t0 : 105
          refine wpB_take (i := 1) (v := ?_) (get_of_drop rfl) (by kernel_rfl) (by kernel_rfl) (by kernel_rfl) (by kernel_rfl) (fun _ _ _ h => h) (Or.inl ⟨by rfl, ?_⟩) hHeld ?_
          rotate_left
          · (intro w hSw; (try dsimp only at hSw); go_simp <;> with_reducible rfl)
          try simp only [Act.put, List.setIfInBounds_toArray, List.set_cons_zero, List.set_cons_succ]
          -- 2: t26 := nilCheck t25 : 0
          refine wpB_take (i := 2) (v := ?_) (get_of_drop rfl) (by kernel_rfl) (by kernel_rfl) (by kernel_rfl) (by kernel_rfl) (fun _ _ _ h => h) (Or.inl ⟨by rfl, ?_⟩) hHeld ?_
          rotate_left
          · (intro w hSw; (try dsimp only at hSw); go_simp <;> with_reducible rfl)
          try simp only [Act.put, List.setIfInBounds_toArray, List.set_cons_zero, List.set_cons_succ]
          -- 3: t27 := fieldAddr 107 t26 0 : 0
          refine wpB_take (i := 3) (v := ?_) (get_of_drop rfl) (by kernel_rfl) (by kernel_rfl) (by kernel_rfl) (by kernel_rfl) (fun _ _ _ h => h) (Or.inl ⟨by rfl, ?_⟩) hHeld ?_
          rotate_left
          · (intro w hSw; (try dsimp only at hSw); go_simp <;> with_reducible rfl)
          try simp only [Act.put, List.setIfInBounds_toArray, List.set_cons_zero, List.set_cons_succ]
          -- 4: t28 := load 36 t27 : 36
          refine wpB_take (i := 4) (v := ?_) (get_of_drop rfl) (by kernel_rfl) (by kernel_rfl) (by kernel_rfl) (by kernel_rfl) (fun _ _ _ h => h) (Or.inl ⟨by rfl, ?_⟩) hHeld ?_
          rotate_left
          · (intro w hSw; (try dsimp only at hSw); go_simp <;> with_reducible rfl)
          try simp only [Act.put, List.setIfInBounds_toArray, List.set_cons_zero, List.set_cons_succ]
          -- 5: t29 := move t5 : 130
          refine wpB_take (i := 5) (v := ?_) (get_of_drop rfl) (by kernel_rfl) (by kernel_rfl) (by kernel_rfl) (by kernel_rfl) (fun _ _ _ h => h) (Or.inl ⟨by rfl, ?_⟩) hHeld ?_
          rotate_left
          · (intro w hSw; (try dsimp only at hSw); go_simp <;> with_reducible rfl)
          try simp only [Act.put, List.setIfInBounds_toArray, List.set_cons_zero, List.set_cons_succ]
          -- 6: t30 := nilCheck t29 : 0
          refine wpB_take (i := 6) (v := ?_) (get_of_drop rfl) (by kernel_rfl) (by kernel_rfl) (by kernel_rfl) (by kernel_rfl) (fun _ _ _ h => h) (Or.inl ⟨by rfl, ?_⟩) hHeld ?_
          rotate_left
          · (intro w hSw; (try dsimp only at hSw); go_simp <;> with_reducible rfl)
          try simp only [Act.put, List.setIfInBounds_toArray, List.set_cons_zero, List.set_cons_succ]
          -- 7: t31 := load 3 t30 : 3
          refine wpB_take (i := 7) (v := ?_) (get_of_drop rfl) (by kernel_rfl) (by kernel_rfl) (by kernel_rfl) (by kernel_rfl) (fun _ _ _ h => h) (Or.inl ⟨by rfl, ?_⟩) hHeld ?_
          rotate_left
          · (intro w hSw; (try dsimp only at hSw); go_simp <;> with_reducible rfl)
          try simp only [Act.put, List.setIfInBounds_toArray, List.set_cons_zero, List.set_cons_succ]
          -- 8: t32 := binOp BinOp.add 3 t31 #i64:1 3 : 3
          refine wpB_take (i := 8) (v := ?_) (get_of_drop rfl) (by kernel_rfl) (by kernel_rfl) (by kernel_rfl) (by kernel_rfl) (fun _ _ _ h => h) (Or.inl ⟨by rfl, ?_⟩) hHeld ?_
          rotate_left
          · (intro w hSw; (try dsimp only at hSw); go_simp <;> with_reducible rfl)
          try simp only [Act.put, List.setIfInBounds_toArray, List.set_cons_zero, List.set_cons_succ]
          -- 9: t33 := move t6 : 3
          refine wpB_take (i := 9) (v := ?_) (get_of_drop rfl) (by kernel_rfl) (by kernel_rfl) (by kernel_rfl) (by kernel_rfl) (fun _ _ _ h => h) (Or.inl ⟨by rfl, ?_⟩) hHeld ?_
          rotate_left
          · (intro w hSw; (try dsimp only at hSw); go_simp <;> with_reducible rfl)
          try simp only [Act.put, List.setIfInBounds_toArray, List.set_cons_zero, List.set_cons_succ]
          -- 10: t34 := binOp BinOp.shr 3 t32 t33 3 : 3
          refine wpB_take (i := 10) (v := ?_) (get_of_drop rfl) (by kernel_rfl) (by kernel_rfl) (by kernel_rfl) (by kernel_rfl) (fun _ _ _ h => h) (Or.inl ⟨by rfl, ?_⟩) hHeld ?_
          rotate_left
          · (intro w hSw; (try dsimp only at hSw); go_simp <;> with_reducible rfl)
          try simp only [Act.put, List.setIfInBounds_toArray, List.set_cons_zero, List.set_cons_succ]
          -- 11: t35 := convert 3 5 t34 : 5
          refine wpB_take (i := 11) (v := ?_) (get_of_drop rfl) (by kernel_rfl) (by kernel_rfl) (by kernel_rfl) (by kernel_rfl) (fun _ _ _ h => h) (Or.inl ⟨by rfl, ?_⟩) hHeld ?_
          rotate_left
          · (intro w hSw; (try dsimp only at hSw); go_simp <;> with_reducible rfl)
          try simp only [Act.put, List.setIfInBounds_toArray, List.set_cons_zero, List.set_cons_succ]
          -- 12: t36 := buildSlice 36 1 [⟨0, t35⟩] : 36
          refine wpB_act (i := 12) (by kernel_rfl) (get_of_drop rfl) (fun K hK => ?_)
          go_simp
          refine hK.out _ _ ?_ (fun hHeld2 => ?_)
          · (first | assumption | exact hHeld.alloc _ | exact hHeld.trans h2 (fun _ h _ => (MM.out _).2 h))
          clear hHeld hK K
          have hHeld := hHeld2
          clear hHeld2
          try simp only [Act.put, List.setIfInBounds_toArray, List.set_cons_zero, List.set_cons_succ]
          -- 13: t37 := append(t28, t36) types [36, 36] : 36
          refine wpB_act (i := 13) (by kernel_rfl) (get_of_drop rfl) (fun K hK => ?_)
          refine app_step _ rfl (.tmp 28) (.tmp 36) 36 5 (.int .u8 0) 1 1 rfl Try.underlying36 info5 rfl (by decide) (by decide) (.slice A2 nk c2) nk (u8s (x ++ (vs.take k).flatMap num ++ (num u).take j)) rfl (by have q := fun W (hW : Chg (fun _ => False) wr W) => hW.own H2.out.row (fun _ _ h => h); (try simp only at q); rw [← NK.out] at q; exact q _ ((Chg.refl _ wr).alloc _).drew) (some ⟨wr.heap.size, 0, none⟩) 1 1 _ _ rfl (by simp) (by omega) rfl ((one_sees wr _ 5).chg ((Chg.refl (fun _ => False) _).drew) (fun _ _ h => h)) (by simp [Value.oneCell']) (by omega) ?_
          have HH := hid hHeld
          intro A3 c3 w2 h1 h2 h3
          have f0' : w2.frozen? ⟨g, 0, none⟩ = false := freeAt ((HH.out.trans h2 (fun _ h _ => (MM.out _).2 h)).blk H2.out.blk (fun h => H2.out.ne ((MM.out _).1 h))) 0
          have c0' : w2.cell? ⟨g, 0, none⟩ = some (.slice A2 nk c2) := hcell0 _ (HH.out.trans h2 (fun _ h _ => (MM.out _).2 h))
          refine hK.out _ _ ?_ (fun hHeld2 => ?_)
          · (first | assumption | exact hHeld.alloc _ | exact hHeld.trans h2 (fun _ h _ => (MM.out _).2 h))
          clear hHeld hK K
          have hHeld := hHeld2
          clear hHeld2
          try simp only [Act.put, List.setIfInBounds_toArray, List.set_cons_zero, List.set_cons_succ]
          -- 14: t38 := nilCheck t24 : 0
          refine wpB_take (i := 14) (v := ?_) (get_of_drop rfl) (by kernel_rfl) (by kernel_rfl) (by kernel_rfl) (by kernel_rfl) (fun _ _ _ h => h) (Or.inl ⟨by rfl, ?_⟩) hHeld ?_
          rotate_left
          · (intro w hSw; (try dsimp only at hSw); go_simp <;> with_reducible rfl)
          try simp only [Act.put, List.setIfInBounds_toArray, List.set_cons_zero, List.set_cons_succ]
          -- 15: t39 := fieldAddr 107 t38 0 : 0
          refine wpB_take (i := 15) (v := ?_) (get_of_drop rfl) (by kernel_rfl) (by kernel_rfl) (by kernel_rfl) (by kernel_rfl) (fun _ _ _ h => h) (Or.inl ⟨by rfl, ?_⟩) hHeld ?_
          rotate_left
          · (intro w hSw; (try dsimp only at hSw); go_simp <;> with_reducible rfl)
          try simp only [Act.put, List.setIfInBounds_toArray, List.set_cons_zero, List.set_cons_succ]
          -- 16: t- := store 36 t39 t37 : 0 (BARRIER)
          refine wpB_bar (i := 16) (by kernel_rfl) (get_of_drop rfl) (by kernel_rfl) (fun K hK => ?_)
          go_simp
          refine hK.out _ _ (fun _ : World => True) ?_
          clear hHeld hK K
          have hHeld := trivial
          try simp only [Act.put, List.setIfInBounds_toArray, List.set_cons_zero, List.set_cons_succ]
          refine wpB_done (by kernel_rfl) ?_ _
          have G1 := hid h1
          have G2 := hid (((Chg.refl (fun j => (Value.slice A2 nk c2).ownBlock = some j) wr).alloc _).drew.trans h2 (fun _ h _ => h))
          have G3 := hid h3
          have HN := hid (byte_next hjl HC2.out H2.out NK.out ⟨hb1, hb2⟩ G1.out G2.out (fun i hi => by
            rcases G3.out i hi with q | q
            · exact .inl q
            · exact .inr (by simp at q; omega)))
          clear h1 h2 h3 hHeld hcell0 hcellp f0' c0'
          go_wp2_with fail
          go_roundw
          case measure => simp [intOf]; omega
          case rel => first | exact ⟨j + 1, hjl, by go_num, HN.out⟩ | ((repeat apply Exists.intro); exact ⟨⟨j + 1, hjl, by go_num, HN.out⟩, rfl⟩)
        · have hj0 : ¬ (0 : Int) ≤ 40 - 8 * (j : Int) := by omega
          obtain rfl : j = 6 := by omega
          have HN := hid (num_next HU.out H2.out HC2.out)
          clear h2 hC2
          go_wp2_with fail
          go_roundw
          case measure => simp [intOf]; omega
          case rel => first | exact ⟨k + 1, hlt, by go_num, HN.out⟩ | ((repeat apply Exists.intro); exact ⟨⟨k + 1, hlt, by go_num, HN.out⟩, rfl⟩)
    · have HT := hid hT
      clear hT
      go_wp2_with fail
      go_end0
      obtain rfl : k = n := by omega
      refine ⟨rfl, ?_⟩
      have := HT.out
      rwa [List.take_of_length_le (by have := HNL.out; omega)] at this
end Go.Proofs.Ytfpjickdkkhndaa.Pa


/- The contract of the codec's num that reads. -/

namespace Go.Proofs.Ytfpjickdkkhndaa.Pa

set_option linter.unusedVariables false

set_option linter.unusedSimpArgs false

open Go.RowKit Go.Proofs.Ytfpjickdkkhndaa.C

attribute [local go_sem] max2_int min2_int max_two min_two

/-- k of the numbers of a block were read. -/
structure NumsAt (w : World) (B g : Nat) (A : Option Addr) (n c : Nat) (b : List UInt8) (at_ : Nat) (bad : Bool) (p tp : Nat) (vs : List Int) (r : List Value) (k : Nat) (us : List Int) (at' : Nat) (bad' : Bool) (wr : World) : Prop where
  len : us.length = k
  wf : ∀ u ∈ us, (Lit.int .i64 u).wf = true
  rd : Rd wr B g A n c b at' bad'
  blk : wr.heap[p]? = some (.cells (ints (us ++ vs.drop k) ++ r).toArray tp (0, 0))
  chg : Chg (fun j => j = g ∨ j = p) w wr
  eq : (left b at_ bad).bind (rdList rdNum k) = (left b at' bad').map fun r => (us, r)
/-- All of them, or it went bad. -/
def NumsTo (w : World) (B g : Nat) (A : Option Addr) (n c : Nat) (b : List UInt8) (at_ : Nat) (bad : Bool) (p tp : Nat) (m : Nat) (r : List Value) (w' : World) : Prop :=
  ∃ us : List Int, us.length = m ∧ (∀ u ∈ us, (Lit.int .i64 u).wf = true) ∧ w'.heap[p]? = some (.cells (ints us ++ r).toArray tp (0, 0)) ∧ Chg (fun j => j = g ∨ j = p) w w' ∧ RdTo B g A n c b at_ bad (rdList rdNum m) w' us

theorem left_none {b : List UInt8} {at_ : Nat} : left b at_ true = none := rfl
theorem left_some {b : List UInt8} {at_ : Nat} : left b at_ false = some (b.drop at_) := rfl

theorem Rd.drew {w : World} {B g : Nat} {A : Option Addr} {n c : Nat} {b : List UInt8} {at_ : Nat} {bad : Bool} (h : Rd w B g A n c b at_ bad) : Rd w.drew B g A n c b at_ bad := ⟨h.low, h.blk, h.row.chg ((Chg.refl (fun _ => False) w).drew) (fun _ _ h => h), h.le⟩
theorem Rd.setBad {w : World} {B g : Nat} {A : Option Addr} {n c : Nat} {b : List UInt8} {at_ : Nat} {bad : Bool} (h : Rd w B g A n c b at_ bad) (y : Bool) : Rd (w.setCell ⟨g, 3, none⟩ (.bool y)) B g A n c b at_ y :=
  ⟨h.low, blk_set h.blk 3 _, h.row.chg ((Chg.refl (fun k => k = g) w).set (p := ⟨g, 3, none⟩) (fun _ => rfl) _) (fun k hk e => by have := h.low; subst e; omega), h.le⟩
theorem Rd.setAt {w : World} {B g : Nat} {A : Option Addr} {n c : Nat} {b : List UInt8} {at_ : Nat} {bad : Bool} (h : Rd w B g A n c b at_ bad) {q : Nat} (hq : q ≤ n) : Rd (w.setCell ⟨g, 1, none⟩ (.int .i64 (q : Int))) B g A n c b q bad :=
  ⟨h.low, blk_set h.blk 1 _, h.row.chg ((Chg.refl (fun k => k = g) w).set (p := ⟨g, 1, none⟩) (fun _ => rfl) _) (fun k hk e => by have := h.low; subst e; omega), hq⟩
theorem NumsAt.bad {w : World} {B g : Nat} {A : Option Addr} {n c : Nat} {b : List UInt8} {at_ : Nat} {bad : Bool} {p tp : Nat} {vs : List Int} {r : List Value} {k : Nat} {us : List Int} {at' : Nat} {bad' : Bool} {wr w2 : World} (h : NumsAt w B g A n c b at_ bad p tp vs r k us at' bad' wr) (hpg : p ≠ g)
    (hw2 : w2 = (wr.setCell ⟨g, 3, none⟩ (.bool bad')).drew) : NumsAt w B g A n c b at_ bad p tp vs r k us at' bad' w2 := by
  subst hw2
  have hc : Chg (fun k => k = g) wr (wr.setCell ⟨g, 3, none⟩ (.bool bad')) := (Chg.refl (fun k => k = g) wr).set (p := ⟨g, 3, none⟩) (fun _ => rfl) _
  exact ⟨h.len, h.wf, (h.rd.setBad bad').drew, hc.blk h.blk hpg, (h.chg.trans hc (fun _ h _ => .inl h)).drew, h.eq⟩
theorem rest_wf {vs us : List Int} {k : Nat} (h : ∀ u ∈ us, (Lit.int .i64 u).wf = true) (h2 : ∀ u ∈ vs, (Lit.int .i64 u).wf = true) : ∀ u ∈ us ++ vs.drop k, (Lit.int .i64 u).wf = true := by
  intro u hu
  rcases List.mem_append.1 hu with hu | hu
  · exact h u hu
  · exact h2 u (List.mem_of_mem_drop hu)
/-- It was bad. -/
theorem NumsAt.stop {w : World} {B g : Nat} {A : Option Addr} {n c : Nat} {b : List UInt8} {at_ : Nat} {bad : Bool} {p tp : Nat} {vs : List Int} {r : List Value} {k m : Nat} {us : List Int} {at' : Nat} {wr : World} (h : NumsAt w B g A n c b at_ bad p tp vs r k us at' true wr) (hm : m = vs.length) (hwf : ∀ u ∈ vs, (Lit.int .i64 u).wf = true) (hk : k ≤ m) :
    NumsTo w B g A n c b at_ bad p tp m r wr :=
  ⟨us ++ vs.drop k, by rw [List.length_append, h.len, List.length_drop]; omega, rest_wf h.wf hwf, h.blk, h.chg, at', true, h.rd, by
    have e := h.eq
    rw [left_none, Option.map_none] at e ⊢
    exact rdList_stop e hk⟩
/-- It lacks. -/
theorem NumsAt.short {w : World} {B g : Nat} {A : Option Addr} {n c : Nat} {b : List UInt8} {at_ : Nat} {bad : Bool} {p tp : Nat} {vs : List Int} {r : List Value} {k m : Nat} {us : List Int} {at' : Nat} {wr w2 : World} (h : NumsAt w B g A n c b at_ bad p tp vs r k us at' false wr) (hm : m = vs.length) (hwf : ∀ u ∈ vs, (Lit.int .i64 u).wf = true) (hk : k < m) (hpg : p ≠ g) (hlack : n < at' + 6)
    (hw2 : w2 = (wr.setCell ⟨g, 3, none⟩ (.bool true)).drew) : Rd w2 B g A n c b at' true ∧ NumsTo w B g A n c b at_ bad p tp m r w2 := by
  subst hw2
  have hc : Chg (fun k => k = g) wr (wr.setCell ⟨g, 3, none⟩ (.bool true)) := (Chg.refl (fun k => k = g) wr).set (p := ⟨g, 3, none⟩) (fun _ => rfl) _
  refine ⟨(h.rd.setBad true).drew, us ++ vs.drop k, by rw [List.length_append, h.len, List.length_drop]; omega, rest_wf h.wf hwf, hc.blk h.blk hpg, (h.chg.trans hc (fun _ h _ => .inl h)).drew, at', true, (h.rd.setBad true).drew, ?_⟩
  have e := rdList_step h.eq
  rw [left_some, Option.bind_some, show rdNum (b.drop at') = none by
    unfold rdNum
    rw [if_pos (by have := h.rd.row.1; rw [List.length_drop]; omega)]] at e
  rw [left_none, Option.map_none]
  exact rdList_stop (by rw [e]; rfl) hk
theorem NumsAt.drewN {w : World} {B g : Nat} {A : Option Addr} {n c : Nat} {b : List UInt8} {at_ : Nat} {bad : Bool} {p tp : Nat} {vs : List Int} {r : List Value} {k : Nat} {us : List Int} {at' : Nat} {bad' : Bool} {wr : World} (h : NumsAt w B g A n c b at_ bad p tp vs r k us at' bad' wr) (q : Nat) : NumsAt w B g A n c b at_ bad p tp vs r k us at' bad' (wr.drewN q) :=
  ⟨h.len, h.wf, h.rd.chg ((Chg.refl (fun _ => False) wr).drewN q) (fun _ h => h.elim) (fun h => h), h.blk, h.chg.drewN q, h.eq⟩
theorem NumsAt.whole {w : World} {B g : Nat} {A : Option Addr} {n c : Nat} {b : List UInt8} {at_ : Nat} {bad : Bool} {p tp : Nat} {vs : List Int} {r : List Value} {m : Nat} {us : List Int} {at' : Nat} {bad' : Bool} {wr : World} (h : NumsAt w B g A n c b at_ bad p tp vs r m us at' bad' wr) (hm : m = vs.length) : NumsTo w B g A n c b at_ bad p tp m r wr :=
  ⟨us, h.len, h.wf, by
    have := h.blk
    rwa [List.drop_of_length_le (by omega), List.append_nil] at this, h.chg, at', bad', h.rd, h.eq⟩
theorem six_drop {b : List UInt8} {n at_ : Nat} (hn : n = b.length) (h : at_ + 6 ≤ n) : (b.take (at_ + 6)).drop at_ = (b.drop at_).take 6 ∧ ((b.drop at_).take 6).length = 6 := by
  refine ⟨by rw [List.drop_take]; congr 1; omega, by rw [List.length_take, List.length_drop]; omega⟩
theorem val_snoc (l : List UInt8) (x : UInt8) : val (l ++ [x]) = val l * 256 + x.toNat := by
  unfold val
  rw [List.foldl_append, List.foldl_cons, List.foldl_nil]
theorem val_bound (l : List UInt8) : ∀ j, val (l.take j) < 256 ^ j
  | 0 => by simp [val]
  | j + 1 => by
    have ih := val_bound l j
    have hp : 256 ^ (j + 1) = 256 ^ j * 256 := Nat.pow_succ ..
    rw [List.take_add_one]
    cases h : l[j]? with
    | none =>
      rw [Option.toList_none, List.append_nil]
      omega
    | some x =>
      have hx := x.toNat_lt
      rw [Option.toList_some, val_snoc]
      omega
theorem val_take_lt (l : List UInt8) {j : Nat} (hj : j ≤ 6) : val (l.take j) < 281474976710656 := Nat.lt_of_lt_of_le (val_bound l j) (Nat.pow_le_pow_right (n := 256) (j := 6) (by omega) hj)
theorem val_take_lt2 (l : List UInt8) {j : Nat} (hj : j < 6) : val (l.take j) < 1099511627776 := Nat.lt_of_lt_of_le (val_bound l j) (Nat.pow_le_pow_right (n := 256) (j := 5) (by omega) (by omega))
theorem int_wf {x : Int} (h0 : -9223372036854775808 ≤ x) (h1 : x ≤ 9223372036854775807) : (Lit.int .i64 x).wf = true := by
  simp [Lit.wf, IntKind.min, IntKind.max, IntKind.signed, IntKind.bits, h0, h1]
theorem NumsAt.get {w : World} {B g : Nat} {A : Option Addr} {n c : Nat} {b : List UInt8} {at_ : Nat} {bad : Bool} {p tp : Nat} {vs : List Int} {r : List Value} {k m : Nat} {us : List Int} {at' : Nat} {bad' : Bool} {wr : World} (h : NumsAt w B g A n c b at_ bad p tp vs r k us at' bad' wr) (hm : m = vs.length) (hk : k < m) :
    ∃ u, vs.drop k = u :: vs.drop (k + 1) ∧ (us ++ vs.drop k)[k]? = some u := by
  have e : vs.drop k = vs[k] :: vs.drop (k + 1) := List.drop_eq_getElem_cons (by omega)
  refine ⟨_, e, ?_⟩
  rw [e, List.getElem?_append_right (by rw [h.len]; exact Nat.le_refl _), h.len, Nat.sub_self]
  rfl
theorem NumsAt.cell {w : World} {B g : Nat} {A : Option Addr} {n c : Nat} {b : List UInt8} {at_ : Nat} {bad : Bool} {p tp : Nat} {vs : List Int} {r : List Value} {k m : Nat} {us : List Int} {at' : Nat} {bad' : Bool} {wr : World} (h : NumsAt w B g A n c b at_ bad p tp vs r k us at' bad' wr) (hm : m = vs.length) (hk : k < m) :
    ∃ u, wr.cell? ⟨p, k, none⟩ = some (.int .i64 u) := by
  obtain ⟨u, _, h2⟩ := h.get hm hk
  exact ⟨u, by rw [cellAt h.blk]; exact ints_at h2 r⟩
theorem NumsAt.step {w : World} {B g : Nat} {A : Option Addr} {n c : Nat} {b : List UInt8} {at_ : Nat} {bad : Bool} {p tp : Nat} {vs : List Int} {r : List Value} {k m : Nat} {us : List Int} {at' q : Nat} {wr : World} (h : NumsAt w B g A n c b at_ bad p tp vs r k us at' false wr) (hm : m = vs.length) (hk : k < m) (hpg : p ≠ g)
    (hB : B ≤ p) (hle : at' + 6 ≤ n) (hq : q = val ((b.drop at').take 6)) (hq48 : q < 281474976710656) :
    NumsAt w B g A n c b at_ bad p tp vs r (k + 1) (us ++ [(q : Int) - 1]) (at' + 6) false ((wr.setCell ⟨p, k, none⟩ (.int .i64 ((q : Int) - 1))).setCell ⟨g, 1, none⟩ (.int .i64 ((at' : Int) + 6))) := by
  obtain ⟨u, h1, _⟩ := h.get hm hk
  have c1 : Chg (fun j => j = p) wr (wr.setCell ⟨p, k, none⟩ (.int .i64 ((q : Int) - 1))) := (Chg.refl (fun j => j = p) wr).set (p := ⟨p, k, none⟩) (fun _ => rfl) _
  have c2 : ∀ v, Chg (fun j => j = g) (wr.setCell ⟨p, k, none⟩ (.int .i64 ((q : Int) - 1))) ((wr.setCell ⟨p, k, none⟩ (.int .i64 ((q : Int) - 1))).setCell ⟨g, 1, none⟩ v) := fun v => (Chg.refl (fun j => j = g) _).set (p := ⟨g, 1, none⟩) (fun _ => rfl) v
  have r1 : Rd (wr.setCell ⟨p, k, none⟩ (.int .i64 ((q : Int) - 1))) B g A n c b at' false := h.rd.chg c1 (fun j hj => hj ▸ hB) (fun e => hpg e.symm)
  have b1 := blk_set h.blk k (.int .i64 ((q : Int) - 1))
  have e0 := ints_set us u ((q : Int) - 1) (vs.drop (k + 1)) r
  rw [h.len] at e0
  rw [h1, e0] at b1
  refine ⟨by rw [List.length_append, h.len]; rfl, ?_, r1.setAt (q := at' + 6) hle, ?_, (h.chg.trans c1 (fun _ h _ => .inr h)).trans (c2 _) (fun _ h _ => .inl h), ?_⟩
  · intro x hx
    rcases List.mem_append.1 hx with hx | hx
    · exact h.wf x hx
    · rw [List.mem_singleton.1 hx]
      exact int_wf (by omega) (by omega)
  · exact (c2 (.int .i64 ((at' : Int) + 6))).blk b1 hpg
  · rw [rdList_step h.eq, left_some, left_some, Option.bind_some, show rdNum (b.drop at') = some ((val ((b.drop at').take 6) : Int) - 1, (b.drop at').drop 6) by
      unfold rdNum
      rw [if_neg (by have := h.rd.row.1; rw [List.length_drop]; omega)], Option.map_some, Option.map_some, List.drop_drop, ← hq]
set_option maxHeartbeats 2000000 in
set_option maxRecDepth 100000 in
theorem num_r {w : World} {R : Nat → Prop} {B g p tp : Nat} {A L : Option Addr} {n c cl : Nat} {b : List UInt8} {at_ : Nat} {bad : Bool} {vs : List Int} {r : List Value} (h : Rd w B g A n c b at_ bad) (hl : Sees w R L (ptrs p vs.length)) (hR : ∀ k, R k → k ≠ g ∧ k ≠ p)
    (hp : w.heap[p]? = some (.cells (ints vs ++ r).toArray tp (0, 0))) (hpB : B ≤ p) (hpg : p ≠ g) (hwf : ∀ u ∈ vs, (Lit.int .i64 u).wf = true) (hn : n ≤ 1000000000) (hm : vs.length ≤ 7) :
    Calls Try.prog 75 #[.pointer (some ⟨g, 0, none⟩), .slice L vs.length cl] w fun e w' => e = .returned (.tuple #[]) ∧ NumsTo w B g A n c b at_ bad p tp vs.length r w' := by
  have H := hid h
  have HL := hid hl
  have HR := hid hR
  have HP := hid hp
  have HWF := hid hwf
  obtain ⟨m, hml⟩ : ∃ m, m = vs.length := ⟨_, rfl⟩
  have HML := hid hml
  rw [← hml] at hm ⊢
  have hm2 : (m : Int) ≤ 7 := by omega
  have hn2 : (n : Int) ≤ 1000000000 := by omega
  clear h hl hR hp hwf hml
  go_enter Try.func75, Try.ntmps75
  go_wp2_with fail
  go_loopw [12] (fun i wr => ∃ (k : Nat) (us : List Int) (at' : Nat) (bad' : Bool), k ≤ m ∧ i = .int .i64 k ∧ NumsAt w B g A n c b at_ bad p tp vs r k us at' bad' wr) (fun i _ => m - (intOf i).toNat)
  case atStart => exact ⟨0, [], at_, bad, Nat.zero_le _, rfl, rfl, by simp, H.out, HP.out, Chg.refl _ _, by cases bad <;> simp [left, rdList]⟩
  case round =>
    obtain ⟨k, us, at', bad', hk, rfl, hT⟩ := hrel
    have HT := hid hT
    clear hT
    by_cases hlt : k < m
    · have hlt2 : (k : Int) < (m : Int) := by omega
      obtain ⟨a, hL, ha⟩ : ∃ a, L = some a ∧ wr.cell? (a.add k) = some (.pointer (some ⟨p, k, none⟩)) := by
        rcases HL.out with h | ⟨a, hA, hS, hx⟩
        · exfalso
          have := congrArg List.length h
          rw [ptrs_length] at this
          have := HML.out
          have e0 : ([] : List Value).length = 0 := rfl
          omega
        · exact ⟨a, hA, HT.out.chg.cell (hx k _ (ptrs_at (by have := HML.out; omega))) (by rw [add_block]; exact fun h => by have := HR.out _ hS; omega)⟩
      subst hL
      obtain ⟨d0, d1, d2, d3⟩ := HT.out.rd.cells
      have f3 : wr.frozen? ⟨g, 3, none⟩ = false := freeAt HT.out.rd.blk 3
      have hc0 : ∀ wx, Chg (fun _ => False) wr wx → wx.cell? ⟨g, 0, none⟩ = some (.slice A n c) := fun wx hx => hx.cell d0 (fun h => h)
      have hc1 : ∀ wx, Chg (fun _ => False) wr wx → wx.cell? ⟨g, 1, none⟩ = some (.int .i64 (at' : Int)) := fun wx hx => hx.cell d1 (fun h => h)
      go_wp2_with fail
      cases bad' with
      | true =>
        have hc3 : ∀ wx, Chg (fun _ => False) wr wx → wx.cell? ⟨g, 3, none⟩ = some (.bool true) := fun wx hx => hx.cell d3 (fun h => h)
        have f3' : wr.drew.frozen? ⟨g, 3, none⟩ = false := f3
        refine wpB_start (fun wx : World => Chg (fun _ => False) wr wx) (by kernel_rfl) ?_
        have hHeld : (fun wx : World => Chg (fun _ => False) wr wx) _ := (by first | assumption | exact Chg.drew (Chg.refl _ _) | (show _ ∧ _; refine ⟨?_, ?_⟩ <;> assumption) | first | assumption | exact Chg.alloc hHeld _)
        -- 0: t40 := move t0 : 105
        refine wpB_take (i := 0) (v := ?_) (get_of_drop rfl) (by kernel_rfl) (by kernel_rfl) (by kernel_rfl) (by kernel_rfl) (fun _ _ _ h => h) (Or.inl ⟨by rfl, ?_⟩) hHeld ?_
        rotate_left
        · (intro w hSw; (try dsimp only at hSw); go_simp <;> with_reducible rfl)
        try simp only [Act.put, List.setIfInBounds_toArray, List.set_cons_zero, List.set_cons_succ]
        -- 1: t41 := move t0 : 105
        refine wpB_take (i := 1) (v := ?_) (get_of_drop rfl) (by kernel_rfl) (by kernel_rfl) (by kernel_rfl) (by kernel_rfl) (fun _ _ _ h => h) (Or.inl ⟨by rfl, ?_⟩) hHeld ?_
        rotate_left
        · (intro w hSw; (try dsimp only at hSw); go_simp <;> with_reducible rfl)
        try simp only [Act.put, List.setIfInBounds_toArray, List.set_cons_zero, List.set_cons_succ]
        -- 2: t42 := nilCheck t41 : 0
        refine wpB_take (i := 2) (v := ?_) (get_of_drop rfl) (by kernel_rfl) (by kernel_rfl) (by kernel_rfl) (by kernel_rfl) (fun _ _ _ h => h) (Or.inl ⟨by rfl, ?_⟩) hHeld ?_
        rotate_left
        · (intro w hSw; (try dsimp only at hSw); go_simp <;> with_reducible rfl)
        try simp only [Act.put, List.setIfInBounds_toArray, List.set_cons_zero, List.set_cons_succ]
        -- 3: t43 := fieldAddr 107 t42 3 : 0
        refine wpB_take (i := 3) (v := ?_) (get_of_drop rfl) (by kernel_rfl) (by kernel_rfl) (by kernel_rfl) (by kernel_rfl) (fun _ _ _ h => h) (Or.inl ⟨by rfl, ?_⟩) hHeld ?_
        rotate_left
        · (intro w hSw; (try dsimp only at hSw); go_simp <;> with_reducible rfl)
        try simp only [Act.put, List.setIfInBounds_toArray, List.set_cons_zero, List.set_cons_succ]
        -- 4: t44 := load 4 t43 : 4
        refine wpB_take (i := 4) (v := ?_) (get_of_drop rfl) (by kernel_rfl) (by kernel_rfl) (by kernel_rfl) (by kernel_rfl) (fun _ _ _ h => h) (Or.inl ⟨by rfl, ?_⟩) hHeld ?_
        rotate_left
        · (intro w hSw; (try dsimp only at hSw); go_simp <;> with_reducible rfl)
        try simp only [Act.put, List.setIfInBounds_toArray, List.set_cons_zero, List.set_cons_succ]
        -- 5: t45 := move t44 : 4
        refine wpB_take (i := 5) (v := ?_) (get_of_drop rfl) (by kernel_rfl) (by kernel_rfl) (by kernel_rfl) (by kernel_rfl) (fun _ _ _ h => h) (Or.inl ⟨by rfl, ?_⟩) hHeld ?_
        rotate_left
        · (intro w hSw; (try dsimp only at hSw); go_simp <;> with_reducible rfl)
        try simp only [Act.put, List.setIfInBounds_toArray, List.set_cons_zero, List.set_cons_succ]
        -- 6: t46 := move t0 : 105   [if ⟨5, false⟩]
        refine wpB_take (i := 6) (v := undef) (get_of_drop rfl) (by kernel_rfl) (by kernel_rfl) (by kernel_rfl) (by kernel_rfl) (fun _ _ _ h => h) (Or.inr ⟨by rfl, rfl⟩) hHeld ?_
        try simp only [Act.put, List.setIfInBounds_toArray, List.set_cons_zero, List.set_cons_succ]
        -- 7: t47 := nilCheck t46 : 0   [if ⟨5, false⟩]
        refine wpB_take (i := 7) (v := undef) (get_of_drop rfl) (by kernel_rfl) (by kernel_rfl) (by kernel_rfl) (by kernel_rfl) (fun _ _ _ h => h) (Or.inr ⟨by rfl, rfl⟩) hHeld ?_
        try simp only [Act.put, List.setIfInBounds_toArray, List.set_cons_zero, List.set_cons_succ]
        -- 8: t48 := fieldAddr 107 t47 0 : 0   [if ⟨5, false⟩]
        refine wpB_take (i := 8) (v := undef) (get_of_drop rfl) (by kernel_rfl) (by kernel_rfl) (by kernel_rfl) (by kernel_rfl) (fun _ _ _ h => h) (Or.inr ⟨by rfl, rfl⟩) hHeld ?_
        try simp only [Act.put, List.setIfInBounds_toArray, List.set_cons_zero, List.set_cons_succ]
        -- 9: t49 := load 36 t48 : 36   [if ⟨5, false⟩]
        refine wpB_take (i := 9) (v := undef) (get_of_drop rfl) (by kernel_rfl) (by kernel_rfl) (by kernel_rfl) (by kernel_rfl) (fun _ _ _ h => h) (Or.inr ⟨by rfl, rfl⟩) hHeld ?_
        try simp only [Act.put, List.setIfInBounds_toArray, List.set_cons_zero, List.set_cons_succ]
        -- 10: t50 := len(t49) types [36] : 3   [if ⟨5, false⟩]
        refine wpB_take (i := 10) (v := undef) (get_of_drop rfl) (by kernel_rfl) (by kernel_rfl) (by kernel_rfl) (by kernel_rfl) (fun _ _ _ h => h) (Or.inr ⟨by rfl, rfl⟩) hHeld ?_
        try simp only [Act.put, List.setIfInBounds_toArray, List.set_cons_zero, List.set_cons_succ]
        -- 11: t51 := move t0 : 105   [if ⟨5, false⟩]
        refine wpB_take (i := 11) (v := undef) (get_of_drop rfl) (by kernel_rfl) (by kernel_rfl) (by kernel_rfl) (by kernel_rfl) (fun _ _ _ h => h) (Or.inr ⟨by rfl, rfl⟩) hHeld ?_
        try simp only [Act.put, List.setIfInBounds_toArray, List.set_cons_zero, List.set_cons_succ]
        -- 12: t52 := nilCheck t51 : 0   [if ⟨5, false⟩]
        refine wpB_take (i := 12) (v := undef) (get_of_drop rfl) (by kernel_rfl) (by kernel_rfl) (by kernel_rfl) (by kernel_rfl) (fun _ _ _ h => h) (Or.inr ⟨by rfl, rfl⟩) hHeld ?_
        try simp only [Act.put, List.setIfInBounds_toArray, List.set_cons_zero, List.set_cons_succ]
        -- 13: t53 := fieldAddr 107 t52 1 : 0   [if ⟨5, false⟩]
        refine wpB_take (i := 13) (v := undef) (get_of_drop rfl) (by kernel_rfl) (by kernel_rfl) (by kernel_rfl) (by kernel_rfl) (fun _ _ _ h => h) (Or.inr ⟨by rfl, rfl⟩) hHeld ?_
        try simp only [Act.put, List.setIfInBounds_toArray, List.set_cons_zero, List.set_cons_succ]
        -- 14: t54 := load 3 t53 : 3   [if ⟨5, false⟩]
        refine wpB_take (i := 14) (v := undef) (get_of_drop rfl) (by kernel_rfl) (by kernel_rfl) (by kernel_rfl) (by kernel_rfl) (fun _ _ _ h => h) (Or.inr ⟨by rfl, rfl⟩) hHeld ?_
        try simp only [Act.put, List.setIfInBounds_toArray, List.set_cons_zero, List.set_cons_succ]
        -- 15: t55 := binOp BinOp.sub 3 t50 t54 3 : 3   [if ⟨5, false⟩]
        refine wpB_take (i := 15) (v := undef) (get_of_drop rfl) (by kernel_rfl) (by kernel_rfl) (by kernel_rfl) (by kernel_rfl) (fun _ _ _ h => h) (Or.inr ⟨by rfl, rfl⟩) hHeld ?_
        try simp only [Act.put, List.setIfInBounds_toArray, List.set_cons_zero, List.set_cons_succ]
        -- 16: t56 := binOp BinOp.lss 3 t55 #i64:6 3 : 4   [if ⟨5, false⟩]
        refine wpB_take (i := 16) (v := undef) (get_of_drop rfl) (by kernel_rfl) (by kernel_rfl) (by kernel_rfl) (by kernel_rfl) (fun _ _ _ h => h) (Or.inr ⟨by rfl, rfl⟩) hHeld ?_
        try simp only [Act.put, List.setIfInBounds_toArray, List.set_cons_zero, List.set_cons_succ]
        -- 17: t57 := pick t45 #true t56 : 4
        refine wpB_take (i := 17) (v := ?_) (get_of_drop rfl) (by kernel_rfl) (by kernel_rfl) (by kernel_rfl) (by kernel_rfl) (fun _ _ _ h => h) (Or.inl ⟨by rfl, ?_⟩) hHeld ?_
        rotate_left
        · (intro w hSw; (try dsimp only at hSw); go_simp <;> with_reducible rfl)
        try simp only [Act.put, List.setIfInBounds_toArray, List.set_cons_zero, List.set_cons_succ]
        -- 18: t58 := nilCheck t40 : 0
        refine wpB_take (i := 18) (v := ?_) (get_of_drop rfl) (by kernel_rfl) (by kernel_rfl) (by kernel_rfl) (by kernel_rfl) (fun _ _ _ h => h) (Or.inl ⟨by rfl, ?_⟩) hHeld ?_
        rotate_left
        · (intro w hSw; (try dsimp only at hSw); go_simp <;> with_reducible rfl)
        try simp only [Act.put, List.setIfInBounds_toArray, List.set_cons_zero, List.set_cons_succ]
        -- 19: t59 := fieldAddr 107 t58 3 : 0
        refine wpB_take (i := 19) (v := ?_) (get_of_drop rfl) (by kernel_rfl) (by kernel_rfl) (by kernel_rfl) (by kernel_rfl) (fun _ _ _ h => h) (Or.inl ⟨by rfl, ?_⟩) hHeld ?_
        rotate_left
        · (intro w hSw; (try dsimp only at hSw); go_simp <;> with_reducible rfl)
        try simp only [Act.put, List.setIfInBounds_toArray, List.set_cons_zero, List.set_cons_succ]
        -- 20: t- := store 4 t59 t57 : 0 (BARRIER)
        refine wpB_bar (i := 20) (by kernel_rfl) (get_of_drop rfl) (by kernel_rfl) (fun K hK => ?_)
        go_simp
        refine hK.out _ _ (fun _ : World => True) ?_
        clear hHeld hK K
        have hHeld := trivial
        try simp only [Act.put, List.setIfInBounds_toArray, List.set_cons_zero, List.set_cons_succ]
        refine wpB_done (by kernel_rfl) ?_ _
        clear hHeld hc0 hc1 hc3 f3'
        obtain ⟨w2, hw2⟩ : ∃ w2, w2 = (wr.setCell ⟨g, 3, none⟩ (.bool true)).drew := ⟨_, rfl⟩
        rw [← hw2]
        have HT2 := hid (HT.out.bad hpg hw2)
        have e3 := HT2.out.rd.cells.2.2.2
        clear hw2
        go_wp2_with fail
        refine bodyPost_ret (results_none rfl _ _ _) rfl ?_
        exact ⟨rfl, HT2.out.stop HML.out HWF.out (by omega)⟩
      | false =>
        have hc3 : ∀ wx, Chg (fun _ => False) wr wx → wx.cell? ⟨g, 3, none⟩ = some (.bool false) := fun wx hx => hx.cell d3 (fun h => h)
        have f3' : wr.drew.frozen? ⟨g, 3, none⟩ = false := f3
        have hle := HT.out.rd.le
        have e6 : IntKind.i64.wrap ((n : Int) - (at' : Int)) = (n : Int) - (at' : Int) := IntWalk.i64_in _ (by omega)
        refine wpB_start (fun wx : World => Chg (fun _ => False) wr wx) (by kernel_rfl) ?_
        have hHeld : (fun wx : World => Chg (fun _ => False) wr wx) _ := (by first | assumption | exact Chg.drew (Chg.refl _ _) | (show _ ∧ _; refine ⟨?_, ?_⟩ <;> assumption) | first | assumption | exact Chg.alloc hHeld _)
        -- 0: t40 := move t0 : 105
        refine wpB_take (i := 0) (v := ?_) (get_of_drop rfl) (by kernel_rfl) (by kernel_rfl) (by kernel_rfl) (by kernel_rfl) (fun _ _ _ h => h) (Or.inl ⟨by rfl, ?_⟩) hHeld ?_
        rotate_left
        · (intro w hSw; (try dsimp only at hSw); go_simp <;> with_reducible rfl)
        try simp only [Act.put, List.setIfInBounds_toArray, List.set_cons_zero, List.set_cons_succ]
        -- 1: t41 := move t0 : 105
        refine wpB_take (i := 1) (v := ?_) (get_of_drop rfl) (by kernel_rfl) (by kernel_rfl) (by kernel_rfl) (by kernel_rfl) (fun _ _ _ h => h) (Or.inl ⟨by rfl, ?_⟩) hHeld ?_
        rotate_left
        · (intro w hSw; (try dsimp only at hSw); go_simp <;> with_reducible rfl)
        try simp only [Act.put, List.setIfInBounds_toArray, List.set_cons_zero, List.set_cons_succ]
        -- 2: t42 := nilCheck t41 : 0
        refine wpB_take (i := 2) (v := ?_) (get_of_drop rfl) (by kernel_rfl) (by kernel_rfl) (by kernel_rfl) (by kernel_rfl) (fun _ _ _ h => h) (Or.inl ⟨by rfl, ?_⟩) hHeld ?_
        rotate_left
        · (intro w hSw; (try dsimp only at hSw); go_simp <;> with_reducible rfl)
        try simp only [Act.put, List.setIfInBounds_toArray, List.set_cons_zero, List.set_cons_succ]
        -- 3: t43 := fieldAddr 107 t42 3 : 0
        refine wpB_take (i := 3) (v := ?_) (get_of_drop rfl) (by kernel_rfl) (by kernel_rfl) (by kernel_rfl) (by kernel_rfl) (fun _ _ _ h => h) (Or.inl ⟨by rfl, ?_⟩) hHeld ?_
        rotate_left
        · (intro w hSw; (try dsimp only at hSw); go_simp <;> with_reducible rfl)
        try simp only [Act.put, List.setIfInBounds_toArray, List.set_cons_zero, List.set_cons_succ]
        -- 4: t44 := load 4 t43 : 4
        refine wpB_take (i := 4) (v := ?_) (get_of_drop rfl) (by kernel_rfl) (by kernel_rfl) (by kernel_rfl) (by kernel_rfl) (fun _ _ _ h => h) (Or.inl ⟨by rfl, ?_⟩) hHeld ?_
        rotate_left
        · (intro w hSw; (try dsimp only at hSw); go_simp <;> with_reducible rfl)
        try simp only [Act.put, List.setIfInBounds_toArray, List.set_cons_zero, List.set_cons_succ]
        -- 5: t45 := move t44 : 4
        refine wpB_take (i := 5) (v := ?_) (get_of_drop rfl) (by kernel_rfl) (by kernel_rfl) (by kernel_rfl) (by kernel_rfl) (fun _ _ _ h => h) (Or.inl ⟨by rfl, ?_⟩) hHeld ?_
        rotate_left
        · (intro w hSw; (try dsimp only at hSw); go_simp <;> with_reducible rfl)
        try simp only [Act.put, List.setIfInBounds_toArray, List.set_cons_zero, List.set_cons_succ]
        -- 6: t46 := move t0 : 105   [if ⟨5, false⟩]
        refine wpB_take (i := 6) (v := ?_) (get_of_drop rfl) (by kernel_rfl) (by kernel_rfl) (by kernel_rfl) (by kernel_rfl) (fun _ _ _ h => h) (Or.inl ⟨by rfl, ?_⟩) hHeld ?_
        rotate_left
        · (intro w hSw; (try dsimp only at hSw); go_simp <;> with_reducible rfl)
        try simp only [Act.put, List.setIfInBounds_toArray, List.set_cons_zero, List.set_cons_succ]
        -- 7: t47 := nilCheck t46 : 0   [if ⟨5, false⟩]
        refine wpB_take (i := 7) (v := ?_) (get_of_drop rfl) (by kernel_rfl) (by kernel_rfl) (by kernel_rfl) (by kernel_rfl) (fun _ _ _ h => h) (Or.inl ⟨by rfl, ?_⟩) hHeld ?_
        rotate_left
        · (intro w hSw; (try dsimp only at hSw); go_simp <;> with_reducible rfl)
        try simp only [Act.put, List.setIfInBounds_toArray, List.set_cons_zero, List.set_cons_succ]
        -- 8: t48 := fieldAddr 107 t47 0 : 0   [if ⟨5, false⟩]
        refine wpB_take (i := 8) (v := ?_) (get_of_drop rfl) (by kernel_rfl) (by kernel_rfl) (by kernel_rfl) (by kernel_rfl) (fun _ _ _ h => h) (Or.inl ⟨by rfl, ?_⟩) hHeld ?_
        rotate_left
        · (intro w hSw; (try dsimp only at hSw); go_simp <;> with_reducible rfl)
        try simp only [Act.put, List.setIfInBounds_toArray, List.set_cons_zero, List.set_cons_succ]
        -- 9: t49 := load 36 t48 : 36   [if ⟨5, false⟩]
        refine wpB_take (i := 9) (v := ?_) (get_of_drop rfl) (by kernel_rfl) (by kernel_rfl) (by kernel_rfl) (by kernel_rfl) (fun _ _ _ h => h) (Or.inl ⟨by rfl, ?_⟩) hHeld ?_
        rotate_left
        · (intro w hSw; (try dsimp only at hSw); go_simp <;> with_reducible rfl)
        try simp only [Act.put, List.setIfInBounds_toArray, List.set_cons_zero, List.set_cons_succ]
        -- 10: t50 := len(t49) types [36] : 3   [if ⟨5, false⟩]
        refine wpB_take (i := 10) (v := ?_) (get_of_drop rfl) (by kernel_rfl) (by kernel_rfl) (by kernel_rfl) (by kernel_rfl) (fun _ _ _ h => h) (Or.inl ⟨by rfl, ?_⟩) hHeld ?_
        rotate_left
        · (intro w hSw; (try dsimp only at hSw); go_simp <;> with_reducible rfl)
        try simp only [Act.put, List.setIfInBounds_toArray, List.set_cons_zero, List.set_cons_succ]
        -- 11: t51 := move t0 : 105   [if ⟨5, false⟩]
        refine wpB_take (i := 11) (v := ?_) (get_of_drop rfl) (by kernel_rfl) (by kernel_rfl) (by kernel_rfl) (by kernel_rfl) (fun _ _ _ h => h) (Or.inl ⟨by rfl, ?_⟩) hHeld ?_
        rotate_left
        · (intro w hSw; (try dsimp only at hSw); go_simp <;> with_reducible rfl)
        try simp only [Act.put, List.setIfInBounds_toArray, List.set_cons_zero, List.set_cons_succ]
        -- 12: t52 := nilCheck t51 : 0   [if ⟨5, false⟩]
        refine wpB_take (i := 12) (v := ?_) (get_of_drop rfl) (by kernel_rfl) (by kernel_rfl) (by kernel_rfl) (by kernel_rfl) (fun _ _ _ h => h) (Or.inl ⟨by rfl, ?_⟩) hHeld ?_
        rotate_left
        · (intro w hSw; (try dsimp only at hSw); go_simp <;> with_reducible rfl)
        try simp only [Act.put, List.setIfInBounds_toArray, List.set_cons_zero, List.set_cons_succ]
        -- 13: t53 := fieldAddr 107 t52 1 : 0   [if ⟨5, false⟩]
        refine wpB_take (i := 13) (v := ?_) (get_of_drop rfl) (by kernel_rfl) (by kernel_rfl) (by kernel_rfl) (by kernel_rfl) (fun _ _ _ h => h) (Or.inl ⟨by rfl, ?_⟩) hHeld ?_
        rotate_left
        · (intro w hSw; (try dsimp only at hSw); go_simp <;> with_reducible rfl)
        try simp only [Act.put, List.setIfInBounds_toArray, List.set_cons_zero, List.set_cons_succ]
        -- 14: t54 := load 3 t53 : 3   [if ⟨5, false⟩]
        refine wpB_take (i := 14) (v := ?_) (get_of_drop rfl) (by kernel_rfl) (by kernel_rfl) (by kernel_rfl) (by kernel_rfl) (fun _ _ _ h => h) (Or.inl ⟨by rfl, ?_⟩) hHeld ?_
        rotate_left
        · (intro w hSw; (try dsimp only at hSw); go_simp <;> with_reducible rfl)
        try simp only [Act.put, List.setIfInBounds_toArray, List.set_cons_zero, List.set_cons_succ]
        -- 15: t55 := binOp BinOp.sub 3 t50 t54 3 : 3   [if ⟨5, false⟩]
        refine wpB_take (i := 15) (v := ?_) (get_of_drop rfl) (by kernel_rfl) (by kernel_rfl) (by kernel_rfl) (by kernel_rfl) (fun _ _ _ h => h) (Or.inl ⟨by rfl, ?_⟩) hHeld ?_
        rotate_left
        · (intro w hSw; (try dsimp only at hSw); go_simp <;> with_reducible rfl)
        try simp only [Act.put, List.setIfInBounds_toArray, List.set_cons_zero, List.set_cons_succ]
        -- 16: t56 := binOp BinOp.lss 3 t55 #i64:6 3 : 4   [if ⟨5, false⟩]
        refine wpB_take (i := 16) (v := ?_) (get_of_drop rfl) (by kernel_rfl) (by kernel_rfl) (by kernel_rfl) (by kernel_rfl) (fun _ _ _ h => h) (Or.inl ⟨by rfl, ?_⟩) hHeld ?_
        rotate_left
        · (intro w hSw; (try dsimp only at hSw); go_simp <;> with_reducible rfl)
        try simp only [Act.put, List.setIfInBounds_toArray, List.set_cons_zero, List.set_cons_succ]
        -- 17: t57 := pick t45 #true t56 : 4
        refine wpB_take (i := 17) (v := ?_) (get_of_drop rfl) (by kernel_rfl) (by kernel_rfl) (by kernel_rfl) (by kernel_rfl) (fun _ _ _ h => h) (Or.inl ⟨by rfl, ?_⟩) hHeld ?_
        rotate_left
        · (intro w hSw; (try dsimp only at hSw); go_simp <;> with_reducible rfl)
        try simp only [Act.put, List.setIfInBounds_toArray, List.set_cons_zero, List.set_cons_succ]
        -- 18: t58 := nilCheck t40 : 0
        refine wpB_take (i := 18) (v := ?_) (get_of_drop rfl) (by kernel_rfl) (by kernel_rfl) (by kernel_rfl) (by kernel_rfl) (fun _ _ _ h => h) (Or.inl ⟨by rfl, ?_⟩) hHeld ?_
        rotate_left
        · (intro w hSw; (try dsimp only at hSw); go_simp <;> with_reducible rfl)
        try simp only [Act.put, List.setIfInBounds_toArray, List.set_cons_zero, List.set_cons_succ]
        -- 19: t59 := fieldAddr 107 t58 3 : 0
        refine wpB_take (i := 19) (v := ?_) (get_of_drop rfl) (by kernel_rfl) (by kernel_rfl) (by kernel_rfl) (by kernel_rfl) (fun _ _ _ h => h) (Or.inl ⟨by rfl, ?_⟩) hHeld ?_
        rotate_left
        · (intro w hSw; (try dsimp only at hSw); go_simp <;> with_reducible rfl)
        try simp only [Act.put, List.setIfInBounds_toArray, List.set_cons_zero, List.set_cons_succ]
        -- 20: t- := store 4 t59 t57 : 0 (BARRIER)
        refine wpB_bar (i := 20) (by kernel_rfl) (get_of_drop rfl) (by kernel_rfl) (fun K hK => ?_)
        go_simp
        refine hK.out _ _ (fun _ : World => True) ?_
        clear hHeld hK K
        have hHeld := trivial
        try simp only [Act.put, List.setIfInBounds_toArray, List.set_cons_zero, List.set_cons_succ]
        refine wpB_done (by kernel_rfl) ?_ _
        clear hHeld hc0 hc1 hc3 f3'
        by_cases h6 : (n : Int) - (at' : Int) < 6
        · rw [decide_eq_true h6]
          obtain ⟨w2, hw2⟩ : ∃ w2, w2 = (wr.setCell ⟨g, 3, none⟩ (.bool true)).drew := ⟨_, rfl⟩
          rw [← hw2]
          have HT2 := hid (HT.out.short HML.out HWF.out hlt hpg (by omega) hw2)
          have e3 := HT2.out.1.cells.2.2.2
          clear hw2
          go_wp2_with fail
          refine bodyPost_ret (results_none rfl _ _ _) rfl ?_
          exact ⟨rfl, HT2.out.2⟩
        · rw [decide_eq_false h6]
          obtain ⟨w2, hw2⟩ : ∃ w2, w2 = (wr.setCell ⟨g, 3, none⟩ (.bool false)).drew := ⟨_, rfl⟩
          rw [← hw2]
          have HT2 := hid (HT.out.bad hpg hw2)
          obtain ⟨e0, e1, e2, e3⟩ := HT2.out.rd.cells
          obtain ⟨A6, c6, hcut, hat⟩ := Ty.At.mid_ (P := Try.prog) (d := Ty.u8) Try.underlying36 info5 A n c at' (at' + 6) 6 (at' : Int) ((at' : Int) + 6) rfl (by omega) (by omega) (by omega) HT.out.rd.row.2.1 (by omega)
          have ew : IntKind.i64.wrap ((at' : Int) + 6) = (at' : Int) + 6 := IntWalk.i64_in _ (by omega)
          clear hw2
          go_wp2_with fail
          go_quiet (fail)
          clear ew
          have H3 := hid (show NumsAt w B g A n c b at_ bad p tp vs r k us at' false (w2.drewN nq) from HT2.out.drewN nq)
          obtain ⟨w3, hw3⟩ : ∃ w3, w3 = w2.drewN nq := ⟨_, rfl⟩
          rw [← hw3] at H3 ⊢
          have HX := hid (hat w3 _ b H3.out.rd.row)
          have H6 := hid (six_drop H3.out.rd.row.1 (show at' + 6 ≤ n by omega))
          clear hw3 hcut hat HT2 e0 e1 e2 e3 f3 d0 d1 d2 d3
          go_wp2_with fail
          go_loop [7, 79] (fun acc i => ∃ j : Nat, j ≤ 6 ∧ i = .int .i64 j ∧ acc = .int .i64 (val (((b.drop at').take 6).take j) : Int)) (fun _ i => 6 - (intOf i).toNat)
          case atStart => exact ⟨0, Nat.zero_le _, rfl, rfl⟩
          case round =>
            obtain ⟨j, hj, rfl, rfl⟩ := hrel
            obtain ⟨q, hq⟩ : ∃ q, q = val (((b.drop at').take 6).take j) := ⟨_, rfl⟩
            have HQ := hid hq
            have hq48 : q < 281474976710656 := by rw [hq]; exact val_take_lt _ hj
            rw [← hq]
            clear hq
            by_cases hjl : j < 6
            · obtain ⟨y, hy⟩ : ∃ y, ((b.take (at' + 6)).drop at')[j]? = some y := ⟨_, List.getElem?_eq_getElem (by have := HX.out.1; omega)⟩
              obtain ⟨a6, ha6, _, hc6⟩ := Ty.byteAt HX.out hy
              subst ha6
              have hyl := y.toNat_lt
              have HY := hid hy
              have hq40 : q < 1099511627776 := by rw [HQ.out]; exact val_take_lt2 _ hjl
              have hsh : bits BinOp.or IntKind.i64 ((q : Int) * 256) (y.toNat : Int) = ((q * 256 + y.toNat : Nat) : Int) := by
                have := join64 8 (q * 256) y.toNat (by omega) (by omega) (by omega) (by omega)
                rw [← this]
                simp
              clear hy hq48
              go_wp2
              go_round
              case measure => simp [intOf]; omega
              case rel =>
                refine ⟨j + 1, by omega, by go_num, ?_⟩
                rw [List.take_add_one, ← H6.out.1, HY.out, Option.toList_some, val_snoc, H6.out.1, ← HQ.out]
                rfl
            · obtain rfl : j = 6 := by omega
              have ev : IntKind.i64.wrap ((q : Int) - 1) = (q : Int) - 1 := IntWalk.i64_in _ (by omega)
              have ea : IntKind.i64.wrap ((at' : Int) + 6) = (at' : Int) + 6 := IntWalk.i64_in _ (by omega)
              obtain ⟨e0, e1, e2, e3⟩ := H3.out.rd.cells
              have f1 : w3.frozen? ⟨g, 1, none⟩ = false := freeAt H3.out.rd.blk 1
              have fp : w3.frozen? ⟨p, k, none⟩ = false := freeAt H3.out.blk k
              obtain ⟨u0, ep⟩ := H3.out.cell HML.out hlt
              have HN := hid (H3.out.step HML.out hlt hpg hpB (show at' + 6 ≤ n by omega) (show q = val ((b.drop at').take 6) by rw [HQ.out, List.take_take]; rfl) (by omega))
              go_wp2_with fail
              go_roundw
              case measure => simp [intOf]; omega
              case rel => first | exact ⟨k + 1, _, _, _, hlt, by go_num, HN.out⟩ | ((repeat apply Exists.intro); exact ⟨⟨k + 1, _, _, _, hlt, by go_num, HN.out⟩, rfl⟩)
    · go_wp2_with fail
      go_end0
      obtain rfl : k = m := by omega
      exact ⟨rfl, HT.out.whole HML.out⟩
end Go.Proofs.Ytfpjickdkkhndaa.Pa
