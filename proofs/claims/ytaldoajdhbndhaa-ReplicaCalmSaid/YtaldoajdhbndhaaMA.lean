/- Texts of this claim, one behind the other: Core, Ty, Bar, Vec, PackM, PackD, PackW, PackU, PackK, PackG, PackRa, PackRb, PackRc, PackRd, PackRe, PackQ, PackSa, PackSb, PackSc, PackX, PackY, FrameP, LedP, LedC, LedR, LedK, LedA, LedB, PackAn, TypesP, Tape, Frame, FrameR, FrameM, LedD, LedF, LedG, RepP, RepM, RepPl, RepC. -/
import Derived.Test.YtaldoajdhbndhaaProg
import Derived.Below
import Derived.Deep.Draws
import Derived.Deep.AppendLies
import Derived.Maps.AppendAt
import Derived.OwnWalk
import Derived.Laws.BytesArg
import Derived.Laws.MakeOwn
import Derived.Laws.OwnMore
import Derived.Tactics
import Derived.Lib.ConvBytes
import Derived.Laws.Slices
import Derived.WalkKit
import Derived.KernelRfl
import Derived.RowKit3
import Derived.Deep.LoopGhost
import Derived.Deep.QuietTactic
import Derived.BigQuiet
import Derived.WideLaws
import Derived.Deep.DeepCutAuto
import Derived.Deep.CutBlock
import Derived.Deep.RegionHeld3
import Derived.Deep.RegionLaw
import Derived.StillTailTactics
import Derived.Lib.AppendStr
import Derived.ArgAppend
import Derived.Laws.IdiomCopy
import Derived.OrdersHeld
import Derived.Laws.BitsLemmas
import Derived.Laws.BitsAllLaws
import Derived.WalkSpells
import Derived.Lib.LazyBuf
import Derived.RowKit
import Derived.ProofKit
import Derived.Deep.Slices
import Derived.IntWalk
import Derived.Shelf.Abstract
import Derived.Laws.StructEq
import Derived.Lib.SlBytesConst
import Derived.WalkMore
import Derived.Deep.WholeRow
import Derived.Maps.Keyed
import Derived.Maps.RangeRun
import Derived.ChangeMaps5
import Derived.Carry
import Derived.OpenShut
import Derived.ShutString
import Derived.ChangeOld
import Derived.SizedLaws

/- Words of memory for this seat's walks: what may have changed (Chg), what is seen (Sees), and append, clone and copy as laws over them. -/

namespace Go.Proofs.Ytaldoajdhbndhaa.C

set_option linter.unusedVariables false

set_option linter.unusedSimpArgs false

open Go.RowKit

theorem hid {p : Prop} (h : p) : Hid p := h

/-- Behind a step of what may write the blocks S: all other old blocks are as they were. -/
structure Chg (S : Nat → Prop) (w w' : World) : Prop where
  os : w'.os = w.os
  tape : w'.tape = w.tape
  output : w'.output = w.output
  size : w.heap.size ≤ w'.heap.size
  block : ∀ k, k < w.heap.size → ¬ S k → w'.heap[k]? = w.heap[k]?

theorem Chg.refl (S : Nat → Prop) (w : World) : Chg S w w := ⟨rfl, rfl, rfl, Nat.le_refl _, fun _ _ _ => rfl⟩
theorem Chg.trans {S S' : Nat → Prop} {a b c : World} (h : Chg S a b) (k : Chg S' b c) (hS : ∀ i, S' i → i < a.heap.size → S i) : Chg S a c :=
  ⟨k.os.trans h.os, k.tape.trans h.tape, k.output.trans h.output, Nat.le_trans h.size k.size,
   fun i hi hn => (k.block i (Nat.lt_of_lt_of_le hi h.size) (fun hs => hn (hS i hs hi))).trans (h.block i hi hn)⟩
theorem Chg.mono {S S' : Nat → Prop} {a b : World} (h : Chg S a b) (hS : ∀ i, S i → i < a.heap.size → S' i) : Chg S' a b :=
  ⟨h.os, h.tape, h.output, h.size, fun i hi hn => h.block i hi (fun hs => hn (hS i hs hi))⟩
theorem Chg.drew {S : Nat → Prop} {a b : World} (h : Chg S a b) : Chg S a b.drew := ⟨h.os, h.tape, h.output, h.size, h.block⟩
theorem Chg.drewN {S : Nat → Prop} {a b : World} (h : Chg S a b) (n : Nat) : Chg S a (b.drewN n) := ⟨h.os, h.tape, h.output, h.size, h.block⟩
theorem Chg.alloc {S : Nat → Prop} {a b : World} (h : Chg S a b) (o : Obj) : Chg S a (b.alloc o) :=
  ⟨h.os, h.tape, h.output, Nat.le_trans h.size (by simp), fun i hi hn => (Below.heap_alloc _ _ _ (Nat.lt_of_lt_of_le hi h.size)).trans (h.block i hi hn)⟩
theorem Chg.set {S : Nat → Prop} {a b : World} (h : Chg S a b) {p : Addr} (hp : p.block < a.heap.size → S p.block) (v : Value) : Chg S a (b.setCell p v) :=
  ⟨h.os, h.tape, h.output, by simpa [World.setCell] using h.size, fun i hi hn => (Below.heap_setCell _ _ _ _ (fun e => hn (by subst e; exact hp hi))).trans (h.block i hi hn)⟩
theorem Chg.grown {S : Nat → Prop} {a b c : World} (h : Chg S a b) {row : Option Nat} (hg : b.grownBy c row) (hr : ∀ k, row = some k → k < a.heap.size → S k) : Chg S a c :=
  ⟨hg.os.trans h.os, hg.tape.trans h.tape, hg.output.trans h.output, Nat.le_trans h.size hg.size,
   fun i hi hn => (hg.block i (Nat.lt_of_lt_of_le hi h.size) (fun e => hn (hr i e.symm hi))).trans (h.block i hi hn)⟩
theorem Chg.below {S : Nat → Prop} {a b : World} {B : Nat} (h : Chg S a b) (hB : B ≤ a.heap.size) (hS : ∀ k, S k → B ≤ k) : Below B a b :=
  ⟨h.os, h.tape, h.output, h.size, fun k hk => h.block k (Nat.lt_of_lt_of_le hk hB) (fun hs => by have := hS k hs; omega)⟩
theorem lt_of_blk {w : World} {g : Nat} {o : Obj} (h : w.heap[g]? = some o) : g < w.heap.size := (Array.getElem?_eq_some_iff.1 h).1
theorem Chg.blk {S : Nat → Prop} {a b : World} (h : Chg S a b) {g : Nat} {o : Obj} (hg : a.heap[g]? = some o) (hn : ¬ S g) : b.heap[g]? = some o := (h.block g (lt_of_blk hg) hn).trans hg
theorem Chg.cell {S : Nat → Prop} {a b : World} (h : Chg S a b) {p : Addr} {v : Value} (hc : a.cell? p = some v) (hn : ¬ S p.block) : b.cell? p = some v :=
  (World.cell?_of_block (h.block p.block (World.block_lt_of_cell? a p hc) hn)).trans hc
theorem Chg.own {S : Nat → Prop} {a b : World} (h : Chg S a b) {base e size n : Nat} {v : Value} {xs : List Value} (ho : a.ownsRow base e size v n xs) (hn : ∀ k, v.ownBlock = some k → ¬ S k) : b.ownsRow base e size v n xs := by
  obtain ⟨h1, h2⟩ := ho
  refine ⟨h1, ?_⟩
  rcases h2 with h2 | ⟨g, cap, cur, hv, hg, hh, r⟩
  · exact .inl h2
  · exact .inr ⟨g, cap, cur, hv, hg, h.blk hh (hn g (by simp [hv, Value.ownBlock])), r⟩

/-- The cells from A on, as far as cs goes; they lie in a block of S. -/
def Sees (w : World) (S : Nat → Prop) (A : Option Addr) (cs : List Value) : Prop :=
  cs = [] ∨ ∃ a, A = some a ∧ S a.block ∧ ∀ j u, cs[j]? = some u → w.cell? (a.add j) = some u
theorem Sees.nil (w : World) (S : Nat → Prop) (A : Option Addr) : Sees w S A [] := .inl rfl
theorem add_block (a : Addr) (i : Nat) : (a.add i).block = a.block := by unfold Addr.add; split <;> rfl
theorem add_add (a : Addr) (i j : Nat) : (a.add i).add j = a.add (i + j) := by
  unfold Addr.add
  by_cases hi : i = 0 <;> by_cases hj : j = 0 <;> simp [hi, hj, Nat.add_assoc]
theorem add_at (g o j : Nat) : (⟨g, o, none⟩ : Addr).add j = ⟨g, o + j, none⟩ := by unfold Addr.add; split <;> simp_all
theorem Sees.chg {w w' : World} {S M : Nat → Prop} {A : Option Addr} {cs : List Value} (h : Sees w S A cs) (hc : Chg M w w') (hd : ∀ k, S k → ¬ M k) : Sees w' S A cs := by
  rcases h with h | ⟨a, hA, hS, hx⟩
  · exact .inl h
  · exact .inr ⟨a, hA, hS, fun j u hj => hc.cell (hx j u hj) (by rw [add_block]; exact hd _ hS)⟩
theorem Sees.mono {w : World} {S S' : Nat → Prop} {A : Option Addr} {cs : List Value} (h : Sees w S A cs) (hS : ∀ k, S k → S' k) : Sees w S' A cs := by
  rcases h with h | ⟨a, hA, hs, hx⟩
  · exact .inl h
  · exact .inr ⟨a, hA, hS _ hs, hx⟩
theorem Sees.bound {w : World} {S : Nat → Prop} {A : Option Addr} {cs : List Value} (h : Sees w S A cs) : Sees w (fun k => S k ∧ k < w.heap.size) A cs := by
  rcases h with h | ⟨a, hA, hs, hx⟩
  · exact .inl h
  · cases cs with
    | nil => exact .inl rfl
    | cons u cs =>
      refine .inr ⟨a, hA, ⟨hs, ?_⟩, hx⟩
      have := World.block_lt_of_cell? w _ (hx 0 u rfl)
      rwa [add_block] at this
theorem Sees.take {w : World} {S : Nat → Prop} {A : Option Addr} {cs : List Value} (h : Sees w S A cs) (n : Nat) : Sees w S A (cs.take n) := by
  rcases h with h | ⟨a, hA, hs, hx⟩
  · exact .inl (by rw [h]; simp)
  · exact .inr ⟨a, hA, hs, fun j u hj => hx j u (by
      rw [List.getElem?_take] at hj
      split at hj
      · exact hj
      · cases hj)⟩
theorem Sees.drop {w : World} {S : Nat → Prop} {A : Option Addr} {cs : List Value} (h : Sees w S A cs) (n : Nat) : Sees w S (A.map (·.add n)) (cs.drop n) := by
  rcases h with h | ⟨a, hA, hs, hx⟩
  · exact .inl (by rw [h]; simp)
  · refine .inr ⟨a.add n, by rw [hA]; rfl, by rw [add_block]; exact hs, fun j u hj => ?_⟩
    rw [C.add_add]
    exact hx _ u (by rw [List.getElem?_drop] at hj; exact hj)

theorem own_sees {w : World} {base e size n : Nat} {v : Value} {xs : List Value} (h : w.ownsRow base e size v n xs) :
    ∃ A c, v = .slice A n c ∧ n ≤ c ∧ c ≤ maxLen ∧ (A = none → c = 0) ∧ Sees w (fun k => v.ownBlock = some k) A xs := by
  rcases h.2 with ⟨rfl, rfl⟩ | ⟨g, cap, cur, rfl, hg, hh, hn, hm, hc, ht⟩
  · exact ⟨none, 0, rfl, Nat.le_refl _, by simp [maxLen], fun _ => rfl, .inl (List.eq_nil_of_length_eq_zero (by simpa using h.1))⟩
  · refine ⟨_, _, rfl, hn, hm, by simp, .inr ⟨_, rfl, rfl, fun j u hj => ?_⟩⟩
    rw [add_at, Nat.zero_add]
    have hl : j < xs.length := by
      rcases Nat.lt_or_ge j xs.length with hl | hl
      · exact hl
      · rw [List.getElem?_eq_none hl] at hj; cases hj
    rw [h.cellAt j (by rw [← h.1]; exact hl)]
    exact hj
theorem own_lt {w : World} {base e size n : Nat} {v : Value} {xs : List Value} (h : w.ownsRow base e size v n xs) (k : Nat) (hk : v.ownBlock = some k) : k < w.heap.size := by
  rcases h.2 with ⟨rfl, _⟩ | ⟨g, cap, cur, rfl, hg, hh, _⟩
  · simp [Value.ownBlock] at hk
  · have : g = k := by simpa [Value.ownBlock] using hk
    subst this
    exact lt_of_blk hh
theorem own_type {w : World} {base e size n : Nat} {v : Value} {xs : List Value} (h : w.ownsRow base e size v n xs) (k : Nat) (hk : v.ownBlock = some k) : ∃ cur, w.heap[k]? = some (.cells cur e (0, 0)) := by
  rcases h.2 with ⟨rfl, _⟩ | ⟨g, cap, cur, rfl, hg, hh, _⟩
  · simp [Value.ownBlock] at hk
  · have : g = k := by simpa [Value.ownBlock] using hk
    subst this
    exact ⟨cur, hh⟩
theorem own_ne {w : World} {base e size n : Nat} {v : Value} {xs : List Value} (h : w.ownsRow base e size v n xs) {g t : Nat} {cs : Array Value} {m : Nat × Nat} (hb : w.heap[g]? = some (.cells cs t m)) (hne : e ≠ t) : v.ownBlock ≠ some g := by
  intro hk
  obtain ⟨cur, hc⟩ := own_type h g hk
  rw [hc] at hb
  injection hb with hb
  injection hb with _ hb _
  exact hne hb
theorem own_nil (w : World) (e size : Nat) : w.ownsRow 0 e size (.slice none 0 0) 0 [] := ⟨by simp, .inl ⟨rfl, rfl⟩⟩

/-! ### max, min -/
def mx (a b : Int) : Int := if a < b then b else a
def mn (a b : Int) : Int := if b < a then b else a
theorem mx_eq (a b : Int) : mx a b = max a b := by unfold mx; split <;> omega
theorem mn_eq (a b : Int) : mn a b = min a b := by unfold mn; split <;> omega
theorem max2_int (k k' : IntKind) (x y : Int) : Builtin.max2 (.int k x) (.int k' y) = pure (.int k (mx x y)) := by simp only [Builtin.max2, gt_iff_lt, mx]
theorem min2_int (k k' : IntKind) (x y : Int) : Builtin.min2 (.int k x) (.int k' y) = pure (.int k (mn x y)) := by simp only [Builtin.min2, mn]
theorem max_two (ats : Array TypeId) (ty : TypeId) (a b : Value) : Builtin.max_ ats ty #[a, b] = (Builtin.max2 a b >>= fun s => pure s) := by simp only [Builtin.max_, List.foldlM_cons, List.foldlM_nil]
theorem min_two (ats : Array TypeId) (ty : TypeId) (a b : Value) : Builtin.min_ ats ty #[a, b] = (Builtin.min2 a b >>= fun s => pure s) := by simp only [Builtin.min_, List.foldlM_cons, List.foldlM_nil]

/-! ### Blocks of cells -/
theorem cellAt {w : World} {g : Nat} {t : TypeId} {cs : Array Value} {m : Nat × Nat} (h : w.heap[g]? = some (.cells cs t m)) (i : Nat) : w.cell? ⟨g, i, none⟩ = cs[i]? := cell_of_row w g i cs t m h
theorem freeAt {w : World} {g : Nat} {t : TypeId} {cs : Array Value} (h : w.heap[g]? = some (.cells cs t (0, 0))) (i : Nat) : w.frozen? ⟨g, i, none⟩ = false := by simp [World.frozen?, h]
theorem blk_set {w : World} {g : Nat} {t : TypeId} {cs : Array Value} (h : w.heap[g]? = some (.cells cs t (0, 0))) (i : Nat) (u : Value) : (w.setCell ⟨g, i, none⟩ u).heap[g]? = some (.cells (cs.setIfInBounds i u) t (0, 0)) := by
  simp only [World.setCell, Array.getElem?_modify, h, Option.map_some]
  simp
theorem blk_alloc {w : World} {g : Nat} {o : Obj} (h : w.heap[g]? = some o) (o' : Obj) : (w.alloc o').heap[g]? = some o := (Below.heap_alloc w o' g (lt_of_blk h)).trans h
theorem blk_new (w : World) (o : Obj) : (w.alloc o).heap[w.heap.size]? = some o := heap_alloc_new w o

/-! ### Bytes -/
def u8s (l : List UInt8) : List Value := l.map fun b => .int .u8 (b.toNat : Int)
@[simp] theorem u8s_length (l : List UInt8) : (u8s l).length = l.length := by simp [u8s]
@[simp] theorem u8s_append (l m : List UInt8) : u8s (l ++ m) = u8s l ++ u8s m := by simp [u8s]
theorem u8s_at {l : List UInt8} {j : Nat} {b : UInt8} (h : l[j]? = some b) : (u8s l)[j]? = some (.int .u8 (b.toNat : Int)) := by simp [u8s, h]
theorem own_at {w : World} {base e size n c : Nat} {A : Option Addr} {xs : List Value} (h : w.ownsRow base e size (.slice A n c) n xs) :
    n ≤ c ∧ c ≤ maxLen ∧ (A = none → c = 0) ∧ Sees w (fun k => (Value.slice A n c).ownBlock = some k) A xs := by
  obtain ⟨A', c', hv, h1, h2, h3, h4⟩ := own_sees h
  injection hv with e1 _ e3
  subst e1
  subst e3
  exact ⟨h1, h2, h3, h4⟩
/-- Where a row of one's own lies, if it holds something. -/
theorem own_form {w : World} {base e size n c : Nat} {A : Option Addr} {xs : List Value} (h : w.ownsRow base e size (.slice A n c) n xs) (hn : 0 < n) : ∃ g, A = some ⟨g, 0, none⟩ ∧ g < w.heap.size := by
  obtain ⟨g, cap, hv, _, hg⟩ := h.form hn
  injection hv with e1 _ _
  exact ⟨g, e1, hg⟩
/-! ### Cuts of a slice -/

section

variable {P : Program}
theorem cut_to (t e : TypeId) (k : IntKind) {i : TypeInfo} (ht : P.underlying t = some (.slice e)) (hi : P.info? e = some i) (A : Option Addr) (n c m : Nat) (hm : m ≤ c) (W : World) :
    (Instr.slice t (.slice A n c) none (some (.int k (m : Int))) none).run P W = .ok (.slice A m c) W := by
  have hel : P.elem t = e := by simp [Program.elem, ht]
  have ha : (A.map fun x => x.add 0) = A := by cases A <;> simp [Addr.add]
  rw [run_slice_h W t A n c (by rw [hel]; exact ht) k (m : Int) (Int.natCast_nonneg _) (by omega), hel]
  simp [sizeOf, typeInfo, hi, sliced, Result.andThen, ha]
theorem cut_from (t e : TypeId) (k : IntKind) {i : TypeInfo} (ht : P.underlying t = some (.slice e)) (hi : P.info? e = some i) (size : Nat) (hsz : i.size = size) (A : Option Addr) (n c m : Nat) (hm : m ≤ n) (W : World) :
    (Instr.slice t (.slice A n c) (some (.int k (m : Int))) none none).run P W = .ok (.slice (if c = m then A else A.map (·.add (m * size))) (n - m) (c - m)) W := by
  have hel : P.elem t = e := by simp [Program.elem, ht]
  rw [run_slice_l W t A n c (by rw [hel]; exact ht) k (m : Int) (Int.natCast_nonneg _) (by omega), hel]
  simp [sizeOf, typeInfo, hi, hsz, sliced, Result.andThen]
end

/-- What is seen from the cut on. -/
theorem Sees.cut {w : World} {S : Nat → Prop} {A : Option Addr} {cs : List Value} (h : Sees w S A cs) {c m size : Nat} (hl : cs.length ≤ c * size) (hm : m ≤ c) : Sees w S (if c = m then A else A.map (·.add (m * size))) (cs.drop (m * size)) := by
  split
  · rename_i e
    subst e
    rw [List.drop_eq_nil_of_le hl]
    exact .nil _ _ _
  · exact h.drop _

/-- A guard: the operation that writes the slot N. -/
theorem at_dst {P : Program} {ops : Array Oper} {rest : List Oper} {o : Oper} {a : Act} {Q : Exit → Act → World → Prop} {w : World} {N : Tmp} (_ : o.dst = some N) (h : wpList P ops Q (o :: rest) a w) : wpList P ops Q (o :: rest) a w := h

/-! ### append as one law: onto a row of one's own, from cells that are seen -/

section

variable {P : Program} {ops : Array Oper} {rest : List Oper} {o : Oper} {a : Act} {Q : Exit → Act → World → Prop}
theorem app_run (w : World) (t ty e : TypeId) (z : Value) (size bytes : Nat) (ht : P.underlying t = some (.slice e))
    (hinfo : (P.info? e).map (fun i => (i.zero, i.size, i.bytes)) = some (some z, size, bytes)) (hzs : z.cells.size = size) (hsz : 0 < size) (hb0 : 0 < bytes)
    (v : Value) (n : Nat) (xs : List Value) (hown : w.ownsRow 0 e size v n xs)
    (A : Option Addr) (m c : Nat) (news : List Value) (S : Nat → Prop) (hA : A = none → c = 0) (hmc : m ≤ c) (hl : news.length = m * size) (hsee : Sees w S A news) (h1 : ∀ u ∈ news, u.oneCell' = true)
    (hbytes : (n + m) * bytes ≤ 140737488355328) :
    ∃ v' w', (Builtin.append_ #[t, t] ty #[v, .slice A m c]).run P w = .ok v' w' ∧ w'.ownsRow 0 e size v' (n + m) (xs ++ news) ∧ Chg (fun k => v.ownBlock = some k) w w' ∧ (∀ k, v'.ownBlock = some k → v.ownBlock = some k ∨ w.heap.size ≤ k) := by
  obtain ⟨i, hi, hz0, hz1, hz2⟩ := info_parts hinfo
  have hnm : n + m ≤ 140737488355328 := Nat.le_trans (Nat.le_mul_of_pos_right _ hb0) hbytes
  cases A with
  | none =>
    have hc := hA rfl
    subst hc
    have hm : m = 0 := by omega
    subst hm
    have hn : news = [] := List.eq_nil_of_length_eq_zero (by simpa using hl)
    subst hn
    exact ⟨v, w, run_append_owned_none w 0 t ty e i size ht hi v n xs hown, by simpa using hown, Chg.refl _ _, fun k hk => .inl hk⟩
  | some ad =>
    have hnews : ∀ j u, news[j]? = some u → w.cell? (ad.add j) = some u := by
      rcases hsee with h | ⟨a', ha, _, hx⟩
      · intro j u hj; rw [h] at hj; simp at hj
      · cases ha; exact hx
    obtain ⟨v', w', hr, h2, h3, _, h5⟩ := run_append_own_at (P := P) w 0 t ty e i z size bytes ht hi hz0 hz1 hz2 hzs hsz v n xs hown ad m c news hl hnews h1 (by simp only [maxLen]; omega) hbytes (Nat.zero_le _)
    refine ⟨v', w', hr, h2, (Chg.refl _ w).grown h3 (fun k hk _ => hk), fun k hk => ?_⟩
    rcases h5 with h5 | h5
    · exact .inl (h5 ▸ hk)
    · rw [h5] at hk
      injection hk with hk
      exact .inr (by omega)
end

/-! ### make([]T, n), a cell an element -/
/-! ### copy over the beginning of a row of one's own -/
theorem setCells_chg (g : Nat) : ∀ (vs : List Value) (o : Nat) (w : World), Chg (fun k => k = g) w (w.setCells g o vs)
  | [], _, _ => Chg.refl _ _
  | v :: vs, o, w => ((Chg.refl (fun k => k = g) w).set (p := ⟨g, o, none⟩) (fun _ => rfl) v).trans (setCells_chg g vs (o + 1) _) (fun _ h _ => h)
theorem setCells_row {g : Nat} {e : TypeId} : ∀ (vs : List Value) (o : Nat) (w : World) (cur : Array Value), w.heap[g]? = some (.cells cur e (0, 0)) → o + vs.length ≤ cur.size →
    ∃ cur', (w.setCells g o vs).heap[g]? = some (.cells cur' e (0, 0)) ∧ cur'.toList = cur.toList.take o ++ vs ++ cur.toList.drop (o + vs.length)
  | [], o, w, cur, h, _ => ⟨cur, h, by simp⟩
  | v :: vs, o, w, cur, h, hl => by
    simp only [List.length_cons] at hl
    obtain ⟨cur', h1, h2⟩ := setCells_row vs (o + 1) (w.setCell ⟨g, o, none⟩ v) (cur.setIfInBounds o v) (blk_set h o v) (by simp; omega)
    refine ⟨cur', h1, ?_⟩
    rw [h2, Array.toList_setIfInBounds]
    apply List.ext_getElem?
    intro j
    simp only [List.getElem?_append, List.getElem?_take, List.getElem?_drop, List.length_append, List.length_take, List.length_set, List.length_cons, Array.length_toList, List.getElem?_set, List.getElem?_cons]
    have hs : cur.toList.length = cur.size := by simp
    rw [Nat.min_eq_left (by omega : o + 1 ≤ cur.size), Nat.min_eq_left (by omega : o ≤ cur.size)]
    by_cases h1 : j < o
    · have : ¬ o = j := by omega
      have h3 : j < o + 1 := by omega
      have h4 : j < o + 1 + vs.length := by omega
      have h5 : j < o + (vs.length + 1) := by omega
      simp [h1, this, h3, h4, h5]
    · by_cases h2 : j = o
      · subst h2
        have h4 : j < j + 1 + vs.length := by omega
        have h6 : j < cur.size := by omega
        simp [h4, h6]
      · have h3 : ¬ j < o + 1 := by omega
        have h7 : ¬ j - o = 0 := by omega
        by_cases h4 : j < o + 1 + vs.length
        · have h5 : j < o + (vs.length + 1) := by omega
          have h8 : j - (o + 1) = j - o - 1 := by omega
          simp [h1, h3, h4, h5, h7, h8]
        · have h5 : ¬ j < o + (vs.length + 1) := by omega
          have h8 : ¬ o = o + 1 + vs.length + (j - (o + 1 + vs.length)) := by omega
          simp [h4, h5, h8]
          congr 1
          omega
section

variable {P : Program} {ops : Array Oper} {rest : List Oper} {o : Oper} {a : Act} {Q : Exit → Act → World → Prop}

end

end Go.Proofs.Ytaldoajdhbndhaa.C


/- Kinds of values that come in: what a value's cells say, in memory that lies in S; and how the row's reading of an argument opens into them. -/

namespace Go.Proofs.Ytaldoajdhbndhaa.C

set_option linter.unusedVariables false

set_option linter.unusedSimpArgs false

open Go.RowKit

structure Ty (α : Type) where
  sz : Nat
  K : World → (Nat → Prop) → α → List Value → Prop
  len : ∀ {w S x cs}, K w S x cs → cs.length = sz
  one : ∀ {w S x cs}, K w S x cs → ∀ u ∈ cs, u.oneCell' = true
  chg : ∀ {w w' : World} {S M : Nat → Prop} {x cs}, K w S x cs → Chg M w w' → (∀ k, S k → ¬ M k) → K w' S x cs
  mono : ∀ {w : World} {S S' : Nat → Prop} {x cs}, K w S x cs → (∀ k, S k → S' k) → K w S' x cs
  bound : ∀ {w : World} {S : Nat → Prop} {x cs}, K w S x cs → K w (fun k => S k ∧ k < w.heap.size) x cs

namespace Ty
def int (k : IntKind) : Ty Int where
  sz := 1
  K := fun _ _ x cs => cs = [.int k x] ∧ (Lit.int k x).wf = true
  len := fun h => by rw [h.1]; rfl
  one := fun h u hu => by rw [h.1] at hu; rw [List.mem_singleton.1 hu]; rfl
  chg := fun h _ _ => h
  mono := fun h _ => h
  bound := fun h => h
def u8 : Ty UInt8 where
  sz := 1
  K := fun _ _ x cs => cs = [.int .u8 (x.toNat : Int)]
  len := fun h => by rw [h]; rfl
  one := fun h u hu => by rw [h] at hu; rw [List.mem_singleton.1 hu]; rfl
  chg := fun h _ _ => h
  mono := fun h _ => h
  bound := fun h => h
def bool : Ty Bool where
  sz := 1
  K := fun _ _ x cs => cs = [.bool x]
  len := fun h => by rw [h]; rfl
  one := fun h u hu => by rw [h] at hu; rw [List.mem_singleton.1 hu]; rfl
  chg := fun h _ _ => h
  mono := fun h _ => h
  bound := fun h => h
def str : Ty ByteArray where
  sz := 1
  K := fun _ _ x cs => cs = [.string x] ∧ x.size ≤ maxLen
  len := fun h => by rw [h.1]; rfl
  one := fun h u hu => by rw [h.1] at hu; rw [List.mem_singleton.1 hu]; rfl
  chg := fun h _ _ => h
  mono := fun h _ => h
  bound := fun h => h
/-- The cells of a row of elements. -/
def Row {α : Type} (d : Ty α) (w : World) (S : Nat → Prop) (xs : List α) (cells : List Value) : Prop :=
  cells.length = xs.length * d.sz ∧ ∀ i x, xs[i]? = some x → d.K w S x ((cells.drop (i * d.sz)).take d.sz)
theorem Row.nil {α : Type} (d : Ty α) (w : World) (S : Nat → Prop) : Row d w S [] [] := ⟨by simp, fun i x h => by simp at h⟩
theorem Row.chg {α : Type} {d : Ty α} {w w' : World} {S M : Nat → Prop} {xs : List α} {cells : List Value} (h : Row d w S xs cells) (hc : Chg M w w') (hd : ∀ k, S k → ¬ M k) : Row d w' S xs cells := ⟨h.1, fun i x hx => d.chg (h.2 i x hx) hc hd⟩
theorem Row.mono {α : Type} {d : Ty α} {w : World} {S S' : Nat → Prop} {xs : List α} {cells : List Value} (h : Row d w S xs cells) (hd : ∀ k, S k → S' k) : Row d w S' xs cells := ⟨h.1, fun i x hx => d.mono (h.2 i x hx) hd⟩
theorem Row.one {α : Type} {d : Ty α} {w : World} {S : Nat → Prop} {xs : List α} {cells : List Value} (h : Row d w S xs cells) : ∀ u ∈ cells, u.oneCell' = true := by
  intro u hu
  obtain ⟨j, hj, rfl⟩ := List.mem_iff_getElem.1 hu
  have hl := h.1
  have hs : 0 < d.sz := by
    rcases Nat.eq_zero_or_pos d.sz with h0 | h0
    · rw [h0] at hl; omega
    · exact h0
  have hd : j / d.sz < xs.length := by rw [Nat.div_lt_iff_lt_mul hs]; omega
  have hk := h.2 (j / d.sz) _ (List.getElem?_eq_getElem hd)
  refine d.one hk _ ?_
  refine List.mem_iff_getElem?.2 ⟨j % d.sz, ?_⟩
  rw [List.getElem?_take, if_pos (Nat.mod_lt _ hs), List.getElem?_drop]
  have : j / d.sz * d.sz + j % d.sz = j := Nat.div_add_mod' j d.sz
  rw [this]
  exact List.getElem?_eq_getElem hj
theorem Row.snoc {α : Type} {d : Ty α} {w : World} {S : Nat → Prop} {xs : List α} {cells cs : List Value} {x : α} (h : Row d w S xs cells) (hx : d.K w S x cs) : Row d w S (xs ++ [x]) (cells ++ cs) := by
  refine ⟨by rw [List.length_append, List.length_append, h.1, d.len hx]; simp [Nat.add_mul], fun i y hy => ?_⟩
  rcases Nat.lt_or_ge i xs.length with hi | hi
  · rw [List.getElem?_append_left hi] at hy
    have := h.2 i y hy
    have h2 : (i + 1) * d.sz ≤ cells.length := by rw [h.1]; exact Nat.mul_le_mul_right _ hi
    rw [Nat.add_mul, Nat.one_mul] at h2
    rw [List.drop_append_of_le_length (by omega), List.take_append_of_le_length (by rw [List.length_drop]; omega)]
    exact this
  · rw [List.getElem?_append_right hi] at hy
    have hi' : i = xs.length := by
      rcases Nat.eq_zero_or_pos (i - xs.length) with h0 | h0
      · omega
      · rw [List.getElem?_eq_none (by simp; omega)] at hy; cases hy
    subst hi'
    simp at hy
    subst hy
    rw [← h.1, List.drop_left, List.take_of_length_le (by rw [d.len hx]; exact Nat.le_refl _)]
    exact hx
theorem Row.take {α : Type} {d : Ty α} {w : World} {S : Nat → Prop} {xs : List α} {cells : List Value} (h : Row d w S xs cells) (n : Nat) : Row d w S (xs.take n) (cells.take (n * d.sz)) := by
  refine ⟨by rw [List.length_take, List.length_take, h.1]; rcases Nat.le_total n xs.length with h1 | h1
             · rw [Nat.min_eq_left h1, Nat.min_eq_left (Nat.mul_le_mul_right _ h1)]
             · rw [Nat.min_eq_right h1, Nat.min_eq_right (Nat.mul_le_mul_right _ h1)], fun i x hx => ?_⟩
  rw [List.getElem?_take] at hx
  split at hx
  · rename_i hi
    have h2 : (i + 1) * d.sz ≤ n * d.sz := Nat.mul_le_mul_right _ hi
    rw [Nat.add_mul, Nat.one_mul] at h2
    rw [List.drop_take, List.take_take, Nat.min_eq_left (by omega)]
    exact h.2 i x hx
  · cases hx
theorem Row.drop {α : Type} {d : Ty α} {w : World} {S : Nat → Prop} {xs : List α} {cells : List Value} (h : Row d w S xs cells) (n : Nat) : Row d w S (xs.drop n) (cells.drop (n * d.sz)) := by
  refine ⟨by rw [List.length_drop, List.length_drop, h.1, Nat.sub_mul], fun i x hx => ?_⟩
  rw [List.getElem?_drop] at hx
  have := h.2 (n + i) x hx
  rw [List.drop_drop, ← Nat.add_mul]
  exact this
/-- A slice that is read: A, c: where it lies, its capacity. -/
def At {α : Type} (d : Ty α) (w : World) (S : Nat → Prop) (A : Option Addr) (n c : Nat) (xs : List α) : Prop :=
  n = xs.length ∧ n ≤ c ∧ c ≤ maxLen ∧ (A = none → c = 0) ∧ ∃ cells, Sees w S A cells ∧ Row d w S xs cells
theorem At.chg {α : Type} {d : Ty α} {w w' : World} {S M : Nat → Prop} {A : Option Addr} {n c : Nat} {xs : List α} (h : At d w S A n c xs) (hc : Chg M w w') (hd : ∀ k, S k → ¬ M k) : At d w' S A n c xs := by
  obtain ⟨h1, h2, h3, h4, cells, h5, h6⟩ := h
  exact ⟨h1, h2, h3, h4, cells, h5.chg hc hd, h6.chg hc hd⟩
theorem At.mono {α : Type} {d : Ty α} {w : World} {S S' : Nat → Prop} {A : Option Addr} {n c : Nat} {xs : List α} (h : At d w S A n c xs) (hd : ∀ k, S k → S' k) : At d w S' A n c xs := by
  obtain ⟨h1, h2, h3, h4, cells, h5, h6⟩ := h
  exact ⟨h1, h2, h3, h4, cells, h5.mono hd, h6.mono hd⟩
theorem At.bound {α : Type} {d : Ty α} {w : World} {S : Nat → Prop} {A : Option Addr} {n c : Nat} {xs : List α} (h : At d w S A n c xs) : At d w (fun k => S k ∧ k < w.heap.size) A n c xs := by
  obtain ⟨h1, h2, h3, h4, cells, h5, h6⟩ := h
  exact ⟨h1, h2, h3, h4, cells, h5.bound, h6.1, fun i x hx => d.bound (h6.2 i x hx)⟩
def slice {α : Type} (d : Ty α) : Ty (List α) where
  sz := 1
  K := fun w S xs cs => ∃ A n c, cs = [.slice A n c] ∧ At d w S A n c xs
  len := fun h => by obtain ⟨_, _, _, rfl, _⟩ := h; rfl
  one := fun h u hu => by obtain ⟨_, _, _, rfl, _⟩ := h; rw [List.mem_singleton.1 hu]; rfl
  chg := fun h hc hd => by obtain ⟨A, n, c, rfl, h⟩ := h; exact ⟨A, n, c, rfl, h.chg hc hd⟩
  mono := fun h hd => by obtain ⟨A, n, c, rfl, h⟩ := h; exact ⟨A, n, c, rfl, h.mono hd⟩
  bound := fun h => by obtain ⟨A, n, c, rfl, h⟩ := h; exact ⟨A, n, c, rfl, h.bound⟩
def pair {α β : Type} (a : Ty α) (b : Ty β) : Ty (α × β) where
  sz := a.sz + b.sz
  K := fun w S x cs => ∃ c0 c1, cs = c0 ++ c1 ∧ a.K w S x.1 c0 ∧ b.K w S x.2 c1
  len := fun h => by obtain ⟨_, _, rfl, h0, h1⟩ := h; rw [List.length_append, a.len h0, b.len h1]
  one := fun h u hu => by
    obtain ⟨_, _, rfl, h0, h1⟩ := h
    rcases List.mem_append.1 hu with hu | hu
    · exact a.one h0 u hu
    · exact b.one h1 u hu
  chg := fun h hc hd => by obtain ⟨_, _, rfl, h0, h1⟩ := h; exact ⟨_, _, rfl, a.chg h0 hc hd, b.chg h1 hc hd⟩
  mono := fun h hd => by obtain ⟨_, _, rfl, h0, h1⟩ := h; exact ⟨_, _, rfl, a.mono h0 hd, b.mono h1 hd⟩
  bound := fun h => by obtain ⟨_, _, rfl, h0, h1⟩ := h; exact ⟨_, _, rfl, a.bound h0, b.bound h1⟩
def iso {α β : Type} (d : Ty α) (f : β → α) : Ty β where
  sz := d.sz
  K := fun w S x cs => d.K w S (f x) cs
  len := d.len
  one := d.one
  chg := d.chg
  mono := d.mono
  bound := d.bound

/-- What is read stays as it is where only new blocks, and blocks made since, are written. -/
theorem At.new {α : Type} {d : Ty α} {w w' : World} {S : Nat → Prop} {A : Option Addr} {n c : Nat} {xs : List α} (h : At d w S A n c xs) (hc : Chg (fun k => w.heap.size ≤ k) w w') : At d w' S A n c xs :=
  (h.bound.chg hc (fun k hk hlt => by have := hk.2; omega)).mono (fun k hk => hk.1)

/-- xs[m:] -/
theorem At.from_ {P : Program} {α : Type} {d : Ty α} {t e : TypeId} {z : Value} {bytes : Nat} (ht : P.underlying t = some (.slice e)) (hinfo : (P.info? e).map (fun i => (i.zero, i.size, i.bytes)) = some (some z, d.sz, bytes)) (A : Option Addr) (n c m q : Nat) (i : Int) (hi : i = (m : Int)) (hm : m ≤ n) (hq : n - m = q) :
    ∃ A' c', (∀ W : World, (Instr.slice t (.slice A n c) (some (.int .i64 i)) none none).run P W = .ok (.slice A' q c') W) ∧ ∀ (w : World) (S : Nat → Prop) (xs : List α), At d w S A n c xs → At d w S A' q c' (xs.drop m) := by
  obtain ⟨j, hj, _, hs, _⟩ := info_parts hinfo
  subst hi
  refine ⟨_, _, fun W => by rw [cut_from t e .i64 ht hj d.sz hs A n c m hm W, hq], fun w S xs h => ?_⟩
  obtain ⟨h1, h2, h3, h4, cells, h5, h6⟩ := h
  refine ⟨by rw [List.length_drop]; omega, by omega, by omega, fun hA => ?_, _, h5.cut (by rw [h6.1]; exact Nat.mul_le_mul_right _ (by omega)) (by omega), h6.drop m⟩
  split at hA
  · omega
  · have := h4 (by simpa using hA)
    omega
/-- xs[:b], b within the length -/
theorem At.to_ {α : Type} {d : Ty α} {w : World} {S : Nat → Prop} {A : Option Addr} {n c : Nat} {xs : List α} (h : At d w S A n c xs) {b : Nat} (hb : b ≤ n) : At d w S A b c (xs.take b) := by
  obtain ⟨h1, h2, h3, h4, cells, h5, h6⟩ := h
  exact ⟨by rw [List.length_take]; omega, by omega, h3, h4, _, h5.take (b * d.sz), h6.take b⟩

/-- Element i of a slice that is read. -/
theorem At.get {α : Type} {d : Ty α} {w : World} {S : Nat → Prop} {A : Option Addr} {n c : Nat} {xs : List α} (h : At d w S A n c xs) (hs : 0 < d.sz) {i : Nat} {x : α} (hx : xs[i]? = some x) :
    ∃ a cs, A = some a ∧ S a.block ∧ d.K w S x cs ∧ ∀ j u, cs[j]? = some u → w.cell? (a.add (i * d.sz + j)) = some u := by
  obtain ⟨h1, h2, h3, h4, cells, h5, h6⟩ := h
  have hi : i < xs.length := by
    rcases Nat.lt_or_ge i xs.length with h | h
    · exact h
    · rw [List.getElem?_eq_none h] at hx; cases hx
  rcases h5 with h5 | ⟨a, ha, hS, hc⟩
  · exfalso
    have := h6.1
    rw [h5] at this
    have h7 : 0 < xs.length * d.sz := Nat.mul_pos (by omega) hs
    simp at this
    omega
  · refine ⟨a, _, ha, hS, h6.2 i x hx, fun j u hj => ?_⟩
    rw [List.getElem?_take] at hj
    split at hj
    · rw [List.getElem?_drop] at hj
      exact hc _ u hj
    · cases hj
theorem u8_row {w : World} {S : Nat → Prop} {l : List UInt8} {cells : List Value} : Row u8 w S l cells ↔ cells = u8s l := by
  constructor
  · rintro ⟨h1, h2⟩
    apply List.ext_getElem?
    intro i
    rcases Nat.lt_or_ge i l.length with hi | hi
    · have h3 : (cells.drop (i * 1)).take 1 = [.int .u8 ((l[i]).toNat : Int)] := h2 i _ (List.getElem?_eq_getElem hi)
      rw [u8s_at (List.getElem?_eq_getElem hi)]
      have h4 := congrArg (·[0]?) h3
      simpa using h4
    · rw [List.getElem?_eq_none (by rw [h1]; show l.length * 1 ≤ i; omega), List.getElem?_eq_none (by rw [u8s_length]; omega)]
  · rintro rfl
    refine ⟨by rw [u8s_length]; show _ = l.length * 1; omega, fun i x hx => ?_⟩
    show ((u8s l).drop (i * 1)).take 1 = [.int .u8 (x.toNat : Int)]
    have h1 := u8s_at hx
    have hl : i < (u8s l).length := by
      rcases Nat.lt_or_ge i (u8s l).length with h | h
      · exact h
      · rw [List.getElem?_eq_none h] at h1; cases h1
    rw [Nat.mul_one, List.drop_eq_getElem_cons hl]
    rw [List.getElem?_eq_getElem hl] at h1
    injection h1 with h1
    rw [h1]
    rfl
/-- Bytes that are read. -/
theorem At.bytes {w : World} {S : Nat → Prop} {A : Option Addr} {n c : Nat} {l : List UInt8} (h : At u8 w S A n c l) : Sees w S A (u8s l) := by
  obtain ⟨_, _, _, _, cells, h5, h6⟩ := h
  rw [u8_row] at h6
  rw [← h6]
  exact h5
theorem At.of_bytes {w : World} {S : Nat → Prop} {A : Option Addr} {n c : Nat} {l : List UInt8} (h1 : n = l.length) (h2 : n ≤ c) (h3 : c ≤ maxLen) (h4 : A = none → c = 0) (h5 : Sees w S A (u8s l)) : At u8 w S A n c l := ⟨h1, h2, h3, h4, u8s l, h5, u8_row.2 rfl⟩
end Ty

/-! ### How a reading of an argument opens -/

section

variable {H : Type} {P : Program}

/-- A reading of type t, from block 0 on, is of kind d, in memory that was there. -/
structure Opens (P : Program) (t : TypeId) {α : Type} (d : Ty α) : Prop where
  size : P.cellsOf t = d.sz
  opens : ∀ {H : Type} (enc : TypeId × Value → H) (w : World) (spare : Nat → Bool) (held : Bool) (fuel : Nat) (cs : List Value) (x : DataW H × List MemPlace),
    DataW.trod enc P w 0 spare held fuel t cs = some x → ∃ v, d.K w (fun k => k < w.heap.size) v cs
theorem opens_int {t : TypeId} {k : IntKind} (ht : P.underlying t = some (.int k)) (hs : P.cellsOf t = 1) : Opens P t (Ty.int k) :=
  ⟨hs, fun enc w spare held fuel cs x h => by obtain ⟨n, rfl, _, hw⟩ := DataW.trod_int ht h; exact ⟨n, rfl, hw⟩⟩
theorem opens_slice {t e : TypeId} {α : Type} {d : Ty α} (ht : P.underlying t = some (.slice e)) (hs : P.cellsOf t = 1) (hd : Opens P e d) (h0 : 0 < d.sz) : Opens P t (Ty.slice d) :=
  ⟨hs, fun enc w spare held fuel cs x h => by
    classical
    rcases Go.Deep.open_slice ht h with ⟨rfl, _⟩ | ⟨a, len, cap, m, n, D, Pl, rfl, hb, hl, hm, hmm, rfl, hx⟩
    · exact ⟨[], none, 0, 0, rfl, rfl, Nat.le_refl _, by simp [maxLen], fun _ => rfl, [], .nil _ _ _, Ty.Row.nil _ _ _⟩
    · have hlm : len ≤ m := by rw [hmm]; split <;> omega
      have hall : ∀ i, i < len → ∃ cs' v, w.cells? 0 (a.add (i * P.cellsOf e)) (P.cellsOf e) = some cs' ∧ d.K w (fun k => k < w.heap.size) v cs' := fun i hi => by
        obtain ⟨cs', h1, h2⟩ := hx i (by omega)
        obtain ⟨_, hlen, _⟩ := World.cells?_some h1
        obtain ⟨v, hv⟩ := hd.2 enc w spare held n cs' _ h2
        exact ⟨cs', v, h1, hv⟩
      have step : ∀ k, k ≤ len → ∃ (xs : List α) (cells : List Value), xs.length = k ∧ Ty.Row d w (fun k => k < w.heap.size) xs cells ∧ ∀ j u, cells[j]? = some u → w.cell? (a.add j) = some u := by
        intro k
        induction k with
        | zero => intro _; exact ⟨[], [], rfl, Ty.Row.nil _ _ _, fun j u hj => by simp at hj⟩
        | succ k ih =>
          intro hk
          obtain ⟨xs, cells, hxl, hr, hc⟩ := ih (by omega)
          obtain ⟨cs', v, h1, h2⟩ := hall k (by omega)
          obtain ⟨_, hlen, hcell⟩ := World.cells?_some h1
          refine ⟨xs ++ [v], cells ++ cs', by simp [hxl], hr.snoc h2, fun j u hj => ?_⟩
          have hcl : cells.length = k * d.sz := by rw [hr.1, hxl]
          rcases Nat.lt_or_ge j cells.length with hj' | hj'
          · rw [List.getElem?_append_left hj'] at hj
            exact hc j u hj
          · rw [List.getElem?_append_right hj'] at hj
            have hj2 : j - cells.length < cs'.length := by
              rcases Nat.lt_or_ge (j - cells.length) cs'.length with h | h
              · exact h
              · rw [List.getElem?_eq_none h] at hj; cases hj
            have := hcell (j - cells.length) (by omega)
            rw [add_add, hd.1, ← hcl] at this
            rw [← hj, ← this]
            congr 2
            omega
      obtain ⟨xs, cells, hxl, hr, hc⟩ := step len (Nat.le_refl _)
      refine ⟨xs, some a, len, cap, rfl, hxl.symm, hl, hm, by simp, cells, ?_, hr⟩
      rcases Nat.eq_zero_or_pos cells.length with h | h
      · exact .inl (List.eq_nil_of_length_eq_zero h)
      · refine .inr ⟨a, rfl, ?_, hc⟩
        have := World.block_lt_of_cell? w _ (hc 0 cells[0] (List.getElem?_eq_getElem h))
        rwa [add_block] at this⟩
end
end Go.Proofs.Ytaldoajdhbndhaa.C


/- Regions that draw their order, walked in one order: what is read may be taken first, as in the library's own law, and at an operation that all others wait for, or that waits for all others, the condition on the world may be chosen anew. -/

namespace Go.Proofs.Ytaldoajdhbndhaa.C

set_option linter.unusedVariables false

section

variable {P : Program} {ops : Array Oper} {Q : Exit → Act → World → Prop} {md : Region.Mode}

def waits (md : Region.Mode) (ops : Array Oper) (j i : Nat) : Bool :=
  match ops[j]? with
  | some o => o.after.any fun e => Region.binds md e && e.on == i
  | none => false
/-- The numbers that an operation waits for, as bits. -/
def depMask (md : Region.Mode) (ops : Array Oper) (k : Nat) : Nat :=
  match ops[k]? with
  | some o => o.after.toList.foldl (fun m e => if Region.binds md e = true then m ||| (1 <<< e.on) else m) 0
  | none => 0
def ancMask (md : Region.Mode) (ops : Array Oper) : Nat → Nat → Nat
  | 0, m => m
  | k + 1, m => ancMask md ops k (if m.testBit k = true then m ||| depMask md ops k else m)
/-- j waits for i, by however many steps (or i is j). -/
def waitsM (md : Region.Mode) (ops : Array Oper) (j i : Nat) : Bool := (ancMask md ops ops.size (1 <<< j)).testBit i
/-- Every other operation waits for it, or it waits for the other one. -/
def barrier (md : Region.Mode) (ops : Array Oper) (j : Nat) : Bool :=
  let m := ancMask md ops ops.size (1 <<< j)
  (List.range ops.size).all fun i => i == j || m.testBit i || waitsM md ops i j
/-- What has come up has come up behind what it waits for. -/
def closed (md : Region.Mode) (ops : Array Oper) (listed : Array Bool) : Bool :=
  (List.range ops.size).all fun j => !listed.getD j false || (match ops[j]? with | some o => o.after.all fun e => !Region.binds md e || listed.getD e.on false | none => true)

def wpAnyB (P : Program) (md : Region.Mode) (ops : Array Oper) (Q : Exit → Act → World → Prop) : Nat → (World → Prop) → Array Bool → Act → World → Prop
  | 0, _, listed, a, w => Region.ready md ops listed = [] ∧ Q .normal a w
  | fuel + 1, S, listed, a, w =>
    (Region.ready md ops listed = [] → Q .normal a w) ∧
    ∀ i ∈ Region.ready md ops listed, wpOp P ops Q i (fun a' w' => if barrier md ops i = true then ∃ S' : World → Prop, wpAnyB P md ops Q fuel S' (listed.setIfInBounds i true) a' w' else S w' ∧ wpAnyB P md ops Q fuel S (listed.setIfInBounds i true) a' w') a w

theorem wpAny_of_B : ∀ (fuel : Nat) (S : World → Prop) (listed : Array Bool) (a : Act) (w : World), wpAnyB P md ops Q fuel S listed a w → wpAny P md ops Q fuel listed a w
  | 0, _, _, _, _, h => h
  | fuel + 1, S, _, _, _, h => ⟨h.1, fun i hi => wpOp_mono (fun a' w' h' => by
      split at h'
      · obtain ⟨S', h'⟩ := h'; exact wpAny_of_B fuel S' _ a' w' h'
      · exact wpAny_of_B fuel S _ a' w' h'.2) (h.2 i hi)⟩

theorem waits_ready {j i : Nat} {listed : Array Bool} (hw : waits md ops j i = true) (hj : j ∈ Region.ready md ops listed) : listed.getD i false = true := by
  obtain ⟨_, o, ho, hall⟩ := mem_ready.1 hj
  unfold waits at hw
  rw [ho] at hw
  obtain ⟨e, he, hb⟩ := Array.any_eq_true'.1 hw
  simp only [Bool.and_eq_true, beq_iff_eq] at hb
  rw [← hb.2]
  exact hall e he hb.1
theorem not_listed {i : Nat} {listed : Array Bool} (h0 : listed.getD i true = false) (h1 : listed.getD i false = true) : False := by
  rcases Nat.lt_or_ge i listed.size with h' | h'
  · simp [h'] at h0 h1; rw [h0] at h1; cases h1
  · simp [Array.getElem?_eq_none h'] at h1
theorem waits_closed {j i : Nat} {listed : Array Bool} (hc : closed md ops listed = true) (hw : waits md ops j i = true) (hj : listed.getD j false = true) : listed.getD i false = true := by
  unfold waits at hw
  split at hw
  · rename_i o ho
    obtain ⟨e, he, hb⟩ := Array.any_eq_true'.1 hw
    simp only [Bool.and_eq_true, beq_iff_eq] at hb
    unfold closed at hc
    rw [List.all_eq_true] at hc
    have h1 := hc j (List.mem_range.2 (Array.getElem?_eq_some_iff.1 ho).1)
    simp only [ho, hj, Bool.not_true, Bool.false_or] at h1
    have h2 := Array.all_eq_true_iff_forall_mem.1 h1 e he
    simp only [hb.1, Bool.not_true, Bool.false_or] at h2
    rw [← hb.2]; exact h2
  · cases hw
theorem depMask_spec {k i : Nat} (h : (depMask md ops k).testBit i = true) : waits md ops k i = true := by
  unfold depMask at h
  unfold waits
  cases ho : ops[k]? with
  | none => rw [ho] at h; simp at h
  | some o =>
    rw [ho] at h
    simp only at h ⊢
    have key : ∀ (l : List Edge) (m : Nat), (l.foldl (fun m e => if Region.binds md e = true then m ||| (1 <<< e.on) else m) m).testBit i = true → m.testBit i = true ∨ ∃ e ∈ l, Region.binds md e = true ∧ e.on = i := by
      intro l
      induction l with
      | nil => intro m h; exact .inl h
      | cons e l ih =>
        intro m h
        rw [List.foldl_cons] at h
        rcases ih _ h with h | ⟨e', he', h'⟩
        · split at h
          · rename_i hb
            rw [Nat.testBit_or, Bool.or_eq_true] at h
            rcases h with h | h
            · exact .inl h
            · rw [Nat.one_shiftLeft, Nat.testBit_two_pow, decide_eq_true_eq] at h
              exact .inr ⟨e, List.mem_cons_self, hb, h⟩
          · exact .inl h
        · exact .inr ⟨e', List.mem_cons_of_mem _ he', h'⟩
    rcases key _ _ h with h | ⟨e, he, hb, hi⟩
    · simp at h
    · rw [Array.any_eq_true']
      exact ⟨e, Array.mem_def.2 he, by simp [hb, hi]⟩
theorem ancMask_spec {j : Nat} {listed : Array Bool} (hc : closed md ops listed = true) (hj : j ∈ Region.ready md ops listed) : ∀ (k m : Nat), (∀ i, m.testBit i = true → i = j ∨ listed.getD i false = true) → ∀ i, (ancMask md ops k m).testBit i = true → i = j ∨ listed.getD i false = true
  | 0, m, h, i, hi => h i hi
  | k + 1, m, h, i, hi => by
    rw [ancMask] at hi
    refine ancMask_spec hc hj k _ (fun i' hi' => ?_) i hi
    split at hi'
    · rename_i hk
      rw [Nat.testBit_or, Bool.or_eq_true] at hi'
      rcases hi' with hi' | hi'
      · exact h i' hi'
      · have hw := depMask_spec hi'
        rcases h k hk with e | e
        · subst e; exact .inr (waits_ready hw hj)
        · exact .inr (waits_closed hc hw e)
    · exact h i' hi'
theorem waitsM_ready {j i : Nat} {listed : Array Bool} (hc : closed md ops listed = true) (hw : waitsM md ops j i = true) (hj : j ∈ Region.ready md ops listed) (hne : i ≠ j) : listed.getD i false = true := by
  rcases ancMask_spec hc hj ops.size (1 <<< j) (fun i hi => by rw [Nat.one_shiftLeft, Nat.testBit_two_pow, decide_eq_true_eq] at hi; exact .inl hi.symm) i hw with h | h
  · exact absurd h hne
  · exact h
theorem closed_set {j : Nat} {listed : Array Bool} (hc : closed md ops listed = true) (hj : j ∈ Region.ready md ops listed) : closed md ops (listed.setIfInBounds j true) = true := by
  unfold closed at hc ⊢
  rw [List.all_eq_true] at hc ⊢
  intro k hk
  have h1 := hc k hk
  by_cases hkj : j = k
  · subst hkj
    obtain ⟨_, o, ho, hall⟩ := mem_ready.1 hj
    rw [ho]
    simp only [Bool.or_eq_true]
    refine .inr (Array.all_eq_true_iff_forall_mem.2 fun e he => ?_)
    cases hb : Region.binds md e with
    | false => rfl
    | true => simp only [Bool.not_true, Bool.false_or]; exact getD_set_true (hall e he hb)
  · rw [getD_set_ne false hkj]
    rw [Bool.or_eq_true] at h1 ⊢
    refine h1.imp id fun h1 => ?_
    split
    · rename_i o ho
      rw [ho] at h1
      refine Array.all_eq_true_iff_forall_mem.2 fun e he => ?_
      have h2 := Array.all_eq_true_iff_forall_mem.1 h1 e he
      rw [Bool.or_eq_true] at h2 ⊢
      exact h2.imp id getD_set_true
    · rfl
theorem not_barrier {i j : Nat} {listed : Array Bool} (hc : closed md ops listed = true) (hi : i ∈ Region.ready md ops listed) (hj : j ∈ Region.ready md ops listed) (hne : j ≠ i) : barrier md ops j = false := by
  rw [Bool.eq_false_iff]
  intro hb
  unfold barrier at hb
  rw [List.all_eq_true] at hb
  obtain ⟨hi0, o, ho, _⟩ := mem_ready.1 hi
  have := hb i (List.mem_range.2 (Array.getElem?_eq_some_iff.1 ho).1)
  simp only [Bool.or_eq_true, beq_iff_eq] at this
  rcases this with (h | h) | h
  · exact hne h.symm
  · exact not_listed hi0 (waitsM_ready hc h hj (Ne.symm hne))
  · exact not_listed (mem_ready.1 hj).1 (waitsM_ready hc h hi hne)

theorem wpAnyB_first {i : Nat} {oi : Oper} {v : Value} (hi : ops[i]? = some oi) (hsel : ∀ (j : Nat) (o : Oper) cs b, ops[j]? = some o → o.op ≠ .select cs b)
    (hQ : ∀ c a w, Q (.panic c) (a.put oi.dst v) w → Q (.panic c) a w) :
    ∀ (fuel : Nat) (S : World → Prop) (listed : Array Bool) (a : Act) (w : World), closed md ops listed = true →
      (∀ j oj, ops[j]? = some oj → j ≠ i → listed.getD j true = false → (∀ e ∈ oj.after, Region.binds md e = true → e.on ≠ i) → oi.apart ops oj = true) →
      i ∈ Region.ready md ops listed → YieldsIf P ops S oi v a → S w →
      wpAnyB P md ops Q fuel S (listed.setIfInBounds i true) (a.put oi.dst v) w → wpAnyB P md ops Q (fuel + 1) S listed a w := by
  have fin : ∀ (fuel : Nat) (S : World → Prop) (l : Array Bool) (a : Act) (w : World), S w → wpAnyB P md ops Q fuel S l a w → if barrier md ops i = true then ∃ S' : World → Prop, wpAnyB P md ops Q fuel S' l a w else S w ∧ wpAnyB P md ops Q fuel S l a w := fun fuel S l a w hS H => by
    split
    · exact ⟨S, H⟩
    · exact ⟨hS, H⟩
  intro fuel
  induction fuel with
  | zero =>
    intro S listed a w _ _ hr hy hS H
    refine ⟨fun h => (by rw [h] at hr; cases hr), fun j hj => ?_⟩
    by_cases hji : j = i
    · subst hji; exact hy.wpOp hi hS (fin _ _ _ _ _ hS H)
    · have := ready_mono hj hji
      rw [H.1] at this
      cases this
  | succ fuel ih =>
    intro S listed a w hcl hfree hr hy hS H
    refine ⟨fun h => (by rw [h] at hr; cases hr), fun j hj => ?_⟩
    by_cases hji : j = i
    · subst hji; exact hy.wpOp hi hS (fin _ _ _ _ _ hS H)
    · have hnb := not_barrier hcl hr hj hji
      have h1 := H.2 j (ready_mono hj hji)
      simp only [hnb, Bool.false_eq_true, if_false] at h1 ⊢
      obtain ⟨hjun, oj, hoj, hall⟩ := mem_ready.1 hj
      have hnot : ∀ e ∈ oj.after, Region.binds md e = true → e.on ≠ i := fun e he hb heq => by
        have h1 := hall e he hb
        have h0 := (mem_ready.1 hr).1
        rw [heq] at h1
        exact not_listed h0 h1
      have h2 := wpOp_putIf hoj (hfree j oj hoj hji hjun hnot) (fun cs b => hsel i oi cs b hi) (fun cs b => hsel j oj cs b hoj) hQ hy h1
      have hfree' : ∀ k ok, ops[k]? = some ok → k ≠ i → (listed.setIfInBounds j true).getD k true = false →
          (∀ e ∈ ok.after, Region.binds md e = true → e.on ≠ i) → oi.apart ops ok = true := fun k ok hk hki hun hno => by
        refine hfree k ok hk hki ?_ hno
        by_cases hjk : j = k
        · subst hjk; exact hjun
        · rw [getD_set_ne true hjk] at hun; exact hun
      refine wpOp_mono (fun a' w' h3 => ⟨h3.2.1, ih S (listed.setIfInBounds j true) a' w' (closed_set hcl hj) hfree' (ready_mono hr (Ne.symm hji)) h3.1 h3.2.1 ?_⟩) h2
      rw [Array.setIfInBounds_comm _ _ hji]
      exact h3.2.2

/-- Take number i first. -/
theorem wpB_take {S : World → Prop} {i : Nat} {oi : Oper} {v : Value} {fuel : Nat} {listed : Array Bool} {a : Act} {w : World} (hi : ops[i]? = some oi)
    (hcl : closed md ops listed = true) (hs : Region.noSelect ops = true) (hf : Region.free md ops listed i = true) (hr : (Region.ready md ops listed).contains i = true)
    (hQ : ∀ c a w, Q (.panic c) (a.put oi.dst v) w → Q (.panic c) a w) (hy : YieldsIf P ops S oi v a) (hS : S w)
    (h : wpAnyB P md ops Q fuel S (listed.setIfInBounds i true) (a.put oi.dst v) w) : wpAnyB P md ops Q (fuel + 1) S listed a w :=
  wpAnyB_first hi (Region.noSelect_spec hs) hQ fuel S listed a w hcl (Region.free_spec hi hf) (by simpa using hr) hy hS h
/-- The one operation that may come up. -/
theorem wpB_act {S : World → Prop} {i : Nat} {o : Oper} {fuel : Nat} {listed : Array Bool} {a : Act} {w : World} (hr : Region.ready md ops listed = [i]) (ho : ops[i]? = some o)
    (h : ∀ K' : Act → World → Prop, Shut (∀ a w, S w → (S w → wpAnyB P md ops Q fuel S (listed.setIfInBounds i true) a w) → K' a w) → if Region.wanted o (yielded ops a.tmps) = true then Oper.wp P o a w K' Q else K' (a.put o.dst undef) w) :
    wpAnyB P md ops Q (fuel + 1) S listed a w :=
  ⟨fun h0 => (by rw [hr] at h0; cases h0), fun j hj => by
    rw [hr] at hj
    rw [List.mem_singleton.1 hj]
    refine wpOp_step ho (fun K' hK => h K' (fun a w hS hW => hK a w ?_))
    split
    · exact ⟨S, hW hS⟩
    · exact ⟨hS, hW hS⟩⟩
/-- The one operation that may come up, and it stands between all others: behind it another condition. -/
theorem wpB_bar {S : World → Prop} {i : Nat} {o : Oper} {fuel : Nat} {listed : Array Bool} {a : Act} {w : World} (hr : Region.ready md ops listed = [i]) (ho : ops[i]? = some o) (hb : barrier md ops i = true)
    (h : ∀ K' : Act → World → Prop, Shut (∀ a w (S' : World → Prop), wpAnyB P md ops Q fuel S' (listed.setIfInBounds i true) a w → K' a w) → if Region.wanted o (yielded ops a.tmps) = true then Oper.wp P o a w K' Q else K' (a.put o.dst undef) w) :
    wpAnyB P md ops Q (fuel + 1) S listed a w :=
  ⟨fun h0 => (by rw [hr] at h0; cases h0), fun j hj => by
    rw [hr] at hj
    rw [List.mem_singleton.1 hj]
    refine wpOp_step ho (fun K' hK => h K' (fun a w S' hW => hK a w ?_))
    rw [if_pos hb]
    exact ⟨S', hW⟩⟩
/-- Two operations may come up next: both ways are walked. -/
theorem wpB_two {S : World → Prop} {i j : Nat} {o oj : Oper} {fuel : Nat} {listed : Array Bool} {a : Act} {w : World} (hr : Region.ready md ops listed = [i, j]) (ho : ops[i]? = some o) (hoj : ops[j]? = some oj)
    (h : ∀ K' : Act → World → Prop, Shut (∀ a w, S w → (S w → wpAnyB P md ops Q fuel S (listed.setIfInBounds i true) a w) → K' a w) → if Region.wanted o (yielded ops a.tmps) = true then Oper.wp P o a w K' Q else K' (a.put o.dst undef) w)
    (h2 : ∀ K' : Act → World → Prop, Shut (∀ a w, S w → (S w → wpAnyB P md ops Q fuel S (listed.setIfInBounds j true) a w) → K' a w) → if Region.wanted oj (yielded ops a.tmps) = true then Oper.wp P oj a w K' Q else K' (a.put oj.dst undef) w) :
    wpAnyB P md ops Q (fuel + 1) S listed a w :=
  ⟨fun h0 => (by rw [hr] at h0; cases h0), fun k hk => by
    rw [hr] at hk
    rcases List.mem_cons.1 hk with rfl | hk
    · refine wpOp_step ho (fun K' hK => h K' (fun a w hS hW => hK a w ?_))
      split
      · exact ⟨S, hW hS⟩
      · exact ⟨hS, hW hS⟩
    · rw [List.mem_singleton.1 hk]
      refine wpOp_step hoj (fun K' hK => h2 K' (fun a w hS hW => hK a w ?_))
      split
      · exact ⟨S, hW hS⟩
      · exact ⟨hS, hW hS⟩⟩
theorem wpB_done {S : World → Prop} {listed : Array Bool} {a : Act} {w : World} (hr : Region.ready md ops listed = []) (h : Q .normal a w) : ∀ fuel, wpAnyB P md ops Q fuel S listed a w
  | 0 => ⟨hr, h⟩
  | _ + 1 => ⟨fun _ => h, by rw [hr]; simp⟩
theorem wpB_start {id : Nat} {a : Act} {w : World} (S : World → Prop) (hm : P.follows .mixedOrders = true) (h : wpAnyB P .any ops Q ops.size S (Array.replicate ops.size false) a w.drew) : (Code.region id ops true).wp P Q a w :=
  wp_region_any hm (wpAny_of_B _ _ _ _ _ h)
end
theorem get_of_drop {α : Type} {l : List α} {i : Nat} {o : α} {r : List α} (h : l.drop i = o :: r) : l.toArray[i]? = some o := by
  have h2 : (l.drop i)[0]? = some o := by rw [h]; rfl
  rw [List.getElem?_drop] at h2
  simpa using h2
end Go.Proofs.Ytaldoajdhbndhaa.C


/- Rows of one's own whose elements may point elsewhere: Vec; and append as a law over them. -/

namespace Go.Proofs.Ytaldoajdhbndhaa.C

set_option linter.unusedVariables false

set_option linter.unusedSimpArgs false

open Go.RowKit

/-- v is a row of one's own in S that holds xs; what its elements point to lies in D, and not in the row. -/
def Vec {α : Type} (d : Ty α) (e : TypeId) (w : World) (S D : Nat → Prop) (v : Value) (xs : List α) : Prop :=
  ∃ cells, w.ownsRow 0 e d.sz v xs.length cells ∧ (∀ k, v.ownBlock = some k → S k) ∧ Ty.Row d w (fun k => D k ∧ v.ownBlock ≠ some k ∧ k < w.heap.size) xs cells

theorem Vec.nil {α : Type} (d : Ty α) (e : TypeId) (w : World) (S D : Nat → Prop) : Vec d e w S D (.slice none 0 0) [] :=
  ⟨[], own_nil _ _ _, fun k hk => by simp [Value.ownBlock] at hk, Ty.Row.nil _ _ _⟩
theorem Vec.form {α : Type} {d : Ty α} {e : TypeId} {w : World} {S D : Nat → Prop} {v : Value} {xs : List α} (h : Vec d e w S D v xs) : ∃ A c, v = .slice A xs.length c := by
  obtain ⟨cells, h1, _⟩ := h
  obtain ⟨A, c, hv, _⟩ := own_sees h1
  exact ⟨A, c, hv⟩
theorem Vec.chg {α : Type} {d : Ty α} {e : TypeId} {w w' : World} {S D M : Nat → Prop} {v : Value} {xs : List α} (h : Vec d e w S D v xs) (hc : Chg M w w') (hv : ∀ k, v.ownBlock = some k → ¬ M k) (hD : ∀ k, D k → v.ownBlock ≠ some k → k < w.heap.size → ¬ M k) : Vec d e w' S D v xs := by
  obtain ⟨cells, h1, h2, h3⟩ := h
  exact ⟨cells, hc.own h1 hv, h2, (h3.chg hc (fun k hk => hD k hk.1 hk.2.1 hk.2.2)).mono (fun k hk => ⟨hk.1, hk.2.1, Nat.lt_of_lt_of_le hk.2.2 hc.size⟩)⟩
theorem Vec.mono {α : Type} {d : Ty α} {e : TypeId} {w : World} {S D S' D' : Nat → Prop} {v : Value} {xs : List α} (h : Vec d e w S D v xs) (hS : ∀ k, S k → k < w.heap.size → S' k) (hD : ∀ k, D k → k < w.heap.size → D' k) : Vec d e w S' D' v xs := by
  obtain ⟨cells, h1, h2, h3⟩ := h
  exact ⟨cells, h1, fun k hk => hS k (h2 k hk) (own_lt h1 k hk), h3.mono (fun k hk => ⟨hD k hk.1 hk.2.2, hk.2⟩)⟩
theorem Vec.lt {α : Type} {d : Ty α} {e : TypeId} {w : World} {S D : Nat → Prop} {v : Value} {xs : List α} (h : Vec d e w S D v xs) (k : Nat) (hk : v.ownBlock = some k) : k < w.heap.size := by
  obtain ⟨cells, h1, _⟩ := h
  exact own_lt h1 k hk
theorem Vec.inS {α : Type} {d : Ty α} {e : TypeId} {w : World} {S D : Nat → Prop} {v : Value} {xs : List α} (h : Vec d e w S D v xs) (k : Nat) (hk : v.ownBlock = some k) : S k := by
  obtain ⟨cells, _, h2, _⟩ := h
  exact h2 k hk
theorem Vec.ne {α : Type} {d : Ty α} {e : TypeId} {w : World} {S D : Nat → Prop} {v : Value} {xs : List α} (h : Vec d e w S D v xs) {g t : Nat} {cs : Array Value} {m : Nat × Nat} (hb : w.heap[g]? = some (.cells cs t m)) (hne : e ≠ t) : v.ownBlock ≠ some g := by
  obtain ⟨cells, h1, _⟩ := h
  exact own_ne h1 hb hne
/-- For reading. -/
theorem Vec.at {α : Type} {d : Ty α} {e : TypeId} {w : World} {S D : Nat → Prop} {A : Option Addr} {n c : Nat} {xs : List α} (h : Vec d e w S D (.slice A n c) xs) : Ty.At d w (fun k => S k ∨ D k) A n c xs := by
  obtain ⟨cells, h1, h2, h3⟩ := h
  have hn : n = xs.length := by
    obtain ⟨A', c', hv, _⟩ := own_sees h1
    injection hv
  subst hn
  obtain ⟨q1, q2, q3, q4⟩ := own_at h1
  exact ⟨rfl, q1, q2, q3, cells, q4.mono (fun k hk => .inl (h2 k hk)), h3.mono (fun k hk => .inr hk.1)⟩
/-- One element: its cells, and where they lie. -/
theorem Vec.get {α : Type} {d : Ty α} {e : TypeId} {w : World} {S D : Nat → Prop} {A : Option Addr} {n c : Nat} {xs : List α} (h : Vec d e w S D (.slice A n c) xs) (hs : 0 < d.sz) {i : Nat} {x : α} (hx : xs[i]? = some x) :
    ∃ g cs, A = some ⟨g, 0, none⟩ ∧ S g ∧ g < w.heap.size ∧ d.K w (fun k => D k ∧ k ≠ g ∧ k < w.heap.size) x cs ∧ ∀ j u, cs[j]? = some u → w.cell? ⟨g, i * d.sz + j, none⟩ = some u := by
  obtain ⟨cells, h1, h2, h3⟩ := h
  have hi : i < xs.length := by
    rcases Nat.lt_or_ge i xs.length with h | h
    · exact h
    · rw [List.getElem?_eq_none h] at hx; cases hx
  have hn : n = xs.length := by
    obtain ⟨A', c', hv, _⟩ := own_sees h1
    injection hv
  subst hn
  obtain ⟨g, hA, hg⟩ := own_form h1 (by omega)
  subst hA
  refine ⟨g, _, rfl, h2 g rfl, hg, (d.mono (h3.2 i x hx) (fun k hk => ⟨hk.1, fun e => hk.2.1 (by rw [e]; rfl), hk.2.2⟩)), fun j u hj => ?_⟩
  have hl := h1.1
  rw [List.getElem?_take] at hj
  split at hj
  · rename_i hjs
    rw [List.getElem?_drop] at hj
    have h4 : i * d.sz + j < xs.length * d.sz := by
      have : (i + 1) * d.sz ≤ xs.length * d.sz := Nat.mul_le_mul_right _ hi
      rw [Nat.add_mul, Nat.one_mul] at this
      omega
    rw [h1.cellAt (i * d.sz + j) h4]
    exact hj
  · cases hj

section

variable {P : Program} {ops : Array Oper} {rest : List Oper} {o : Oper} {a : Act} {Q : Exit → Act → World → Prop}
theorem Ty.Row.append {α : Type} {d : Ty α} {w : World} {S : Nat → Prop} {xs ys : List α} {cs ds : List Value} (h : Ty.Row d w S xs cs) (k : Ty.Row d w S ys ds) : Ty.Row d w S (xs ++ ys) (cs ++ ds) := by
  refine ⟨by rw [List.length_append, List.length_append, h.1, k.1, Nat.add_mul], fun i x hx => ?_⟩
  rcases Nat.lt_or_ge i xs.length with hi | hi
  · rw [List.getElem?_append_left hi] at hx
    have h2 : (i + 1) * d.sz ≤ cs.length := by rw [h.1]; exact Nat.mul_le_mul_right _ hi
    rw [Nat.add_mul, Nat.one_mul] at h2
    rw [List.drop_append_of_le_length (by omega), List.take_append_of_le_length (by rw [List.length_drop]; omega)]
    exact h.2 i x hx
  · rw [List.getElem?_append_right hi] at hx
    have h2 := k.2 _ x hx
    have h3 : i * d.sz = cs.length + (i - xs.length) * d.sz := by rw [h.1, ← Nat.add_mul]; congr 1; omega
    rw [h3, List.drop_append, List.drop_eq_nil_of_le (by omega), List.nil_append, Nat.add_sub_cancel_left]
    exact h2
theorem Ty.Row.one_ {α : Type} {d : Ty α} {w : World} {S : Nat → Prop} {x : α} {cs : List Value} (h : d.K w S x cs) : Ty.Row d w S [x] cs := by
  have := Ty.Row.snoc (Ty.Row.nil d w S) h
  simpa using this
theorem Vec.app_run {α : Type} {d : Ty α} (w : World) (t ty e : TypeId) (z : Value) (bytes : Nat) (ht : P.underlying t = some (.slice e))
    (hinfo : (P.info? e).map (fun i => (i.zero, i.size, i.bytes)) = some (some z, d.sz, bytes)) (hzs : z.cells.size = d.sz) (hsz : 0 < d.sz) (hb0 : 0 < bytes)
    {S D : Nat → Prop} {v : Value} {xs : List α} (hv : Vec d e w S D v xs) {A : Option Addr} {m c : Nat} {ys : List α} {news : List Value} {R : Nat → Prop} (hA : A = none → c = 0) (hmc : m ≤ c) (hm : m = ys.length) (hsee : Sees w R A news)
    (hrow : Ty.Row d w (fun k => D k ∧ v.ownBlock ≠ some k ∧ k < w.heap.size) ys news) (hbytes : (xs.length + m) * bytes ≤ 140737488355328) :
    ∃ A' c' w', (Builtin.append_ #[t, t] ty #[v, .slice A m c]).run P w = .ok (.slice A' (xs.length + m) c') w' ∧ Vec d e w' (fun k => S k ∨ w.heap.size ≤ k) D (.slice A' (xs.length + m) c') (xs ++ ys) ∧ Chg (fun k => v.ownBlock = some k) w w' := by
  obtain ⟨cells, h1, h2, h3⟩ := hv
  obtain ⟨v', w', hr, g1, g2, g3⟩ := Go.Proofs.Ytaldoajdhbndhaa.C.app_run (P := P) w t ty e z d.sz bytes ht hinfo hzs hsz hb0 v xs.length cells h1 A m c news R hA hmc (by rw [hrow.1, hm]) hsee hrow.one hbytes
  obtain ⟨A', c', rfl, _⟩ := own_sees g1
  refine ⟨A', c', w', hr, ⟨cells ++ news, by rw [List.length_append, ← hm]; exact g1, fun k hk => ?_, ?_⟩, g2⟩
  · rcases g3 k hk with h | h
    · exact .inl (h2 k h)
    · exact .inr h
  · refine ((h3.append hrow).chg g2 (fun k hk => hk.2.1)).mono (fun k hk => ⟨hk.1, fun hv => ?_, Nat.lt_of_lt_of_le hk.2.2 g2.size⟩)
    rcases g3 k hv with h | h
    · exact hk.2.1 h
    · have := hk.2.2; omega
theorem vec_list {α : Type} {d : Ty α} (w : World) (hgd : o.guard = none) (s x : Operand) (t e : TypeId) (z : Value) (bytes : Nat)
    (ho : o.op = .call { callee := .builtin .append, args := #[s, x], argTypes := #[t, t] }) (ht : P.underlying t = some (.slice e))
    (hinfo : (P.info? e).map (fun i => (i.zero, i.size, i.bytes)) = some (some z, d.sz, bytes)) (hzs : z.cells.size = d.sz) (hsz : 0 < d.sz) (hb0 : 0 < bytes)
    {S D : Nat → Prop} (v : Value) {xs : List α} (hs : a.eval s = v) (hv : Vec d e w S D v xs) (A : Option Addr) (m c : Nat) {ys : List α} {news : List Value} {R : Nat → Prop} (hx : a.eval x = .slice A m c) (hA : A = none → c = 0) (hmc : m ≤ c) (hm : m = ys.length) (hsee : Sees w R A news)
    (hrow : Ty.Row d w (fun k => D k ∧ v.ownBlock ≠ some k ∧ k < w.heap.size) ys news) (hbytes : (xs.length + m) * bytes ≤ 140737488355328)
    (h : ∀ A' c' w', Vec d e w' (fun k => S k ∨ w.heap.size ≤ k) D (.slice A' (xs.length + m) c') (xs ++ ys) → Chg (fun k => v.ownBlock = some k) w w' → wpList P ops Q rest (a.put o.dst (.slice A' (xs.length + m) c')) w') :
    wpList P ops Q (o :: rest) a w := by
  refine wpList_plain hgd fun K hK => ?_
  obtain ⟨A', c', w', hr, h2, h3⟩ := hv.app_run (P := P) w t o.type e z bytes ht hinfo hzs hsz hb0 hA hmc hm hsee hrow hbytes
  unfold Oper.wp execOp
  simp only [ho, resolve, invoke, builtin, Sem.run_bind, Sem.run_pure, Result.andThen_ok, List.map_toArray, List.map_cons, List.map_nil, hs, hx, hr]
  exact hK _ _ (h A' c' w' h2 h3)
theorem vec_step {E : Prop} {α : Type} {d : Ty α} (w : World) {K : Act → World → Prop} (hgd : o.guard = none) (s x : Operand) (t e : TypeId) (z : Value) (bytes : Nat)
    (ho : o.op = .call { callee := .builtin .append, args := #[s, x], argTypes := #[t, t] }) (ht : P.underlying t = some (.slice e))
    (hinfo : (P.info? e).map (fun i => (i.zero, i.size, i.bytes)) = some (some z, d.sz, bytes)) (hzs : z.cells.size = d.sz) (hsz : 0 < d.sz) (hb0 : 0 < bytes)
    {S D : Nat → Prop} (v : Value) {xs : List α} (hs : a.eval s = v) (hv : Vec d e w S D v xs) (A : Option Addr) (m c : Nat) {ys : List α} {news : List Value} {R : Nat → Prop} (hx : a.eval x = .slice A m c) (hA : A = none → c = 0) (hmc : m ≤ c) (hm : m = ys.length) (hsee : Sees w R A news)
    (hrow : Ty.Row d w (fun k => D k ∧ v.ownBlock ≠ some k ∧ k < w.heap.size) ys news) (hbytes : (xs.length + m) * bytes ≤ 140737488355328)
    (h : ∀ A' c' w', Vec d e w' (fun k => S k ∨ w.heap.size ≤ k) D (.slice A' (xs.length + m) c') (xs ++ ys) → Chg (fun k => v.ownBlock = some k) w w' → K (a.put o.dst (.slice A' (xs.length + m) c')) w') :
    if Region.wanted o (yielded ops a.tmps) = true then Oper.wp P o a w K Q else E := by
  have hw : Region.wanted o (yielded ops a.tmps) = true := by simp [Region.wanted, hgd]
  rw [if_pos hw]
  obtain ⟨A', c', w', hr, h2, h3⟩ := hv.app_run (P := P) w t o.type e z bytes ht hinfo hzs hsz hb0 hA hmc hm hsee hrow hbytes
  unfold Oper.wp execOp
  simp only [ho, resolve, invoke, builtin, Sem.run_bind, Sem.run_pure, Result.andThen_ok, List.map_toArray, List.map_cons, List.map_nil, hs, hx, hr]
  exact h A' c' w' h2 h3
end

/-- A literal in a new block. -/
theorem new_sees (W : World) (cs : Array Value) (e : TypeId) : Sees (W.alloc (.cells cs e)) (fun k => k = W.heap.size) (some ⟨W.heap.size, 0, none⟩) cs.toList := by
  refine .inr ⟨_, rfl, rfl, fun j u hj => ?_⟩
  rw [add_at, Nat.zero_add, cellAt (blk_new W _)]
  simpa using hj
end Go.Proofs.Ytaldoajdhbndhaa.C


/- Numbers of six bytes as plain data. No program in sight. -/

namespace Go.Proofs.Ytaldoajdhbndhaa.Pa

set_option linter.unusedVariables false

def val (l : List UInt8) : Nat := l.foldl (fun v x => v * 256 + x.toNat) 0
end Go.Proofs.Ytaldoajdhbndhaa.Pa


/- Rules, entries and records as plain data, their bytes, and how they are read. No program in sight. -/

namespace Go.Proofs.Ytaldoajdhbndhaa.Pa

set_option linter.unusedVariables false

open Go.Proofs.Ytaldoajdhbndhaa.C

structure Rule where
  id : Int
  pri : Int
  act : Int
  scope : Int
  pat : ByteArray
deriving DecidableEq
structure Entry where
  view : Int
  client : Int
  request : Int
  dflt : Int
  closed : Int
  fuel : Int
  stack : Int
  put : List Rule
  drop : List Int
deriving DecidableEq

end Go.Proofs.Ytaldoajdhbndhaa.Pa


/- The codec in memory: one that writes (Wr), one that reads (Rd); numbers' pointers. -/

namespace Go.Proofs.Ytaldoajdhbndhaa.Pa

set_option linter.unusedVariables false

set_option linter.unusedSimpArgs false

open Go.RowKit Go.Proofs.Ytaldoajdhbndhaa.C

/-- What is left to be read; none: it is bad. -/
def left (b : List UInt8) (at_ : Nat) (bad : Bool) : Option (List UInt8) := if bad then none else some (b.drop at_)
/-- Numbers in cells. -/
def ints (l : List Int) : List Value := l.map fun n => .int .i64 n
@[simp] theorem ints_length (l : List Int) : (ints l).length = l.length := by simp [ints]
/-- Pointers to a block's first cells. -/
def ptrs (p n : Nat) : List Value := (List.range n).map fun i => .pointer (some ⟨p, i, none⟩)
@[simp] theorem ptrs_length (p n : Nat) : (ptrs p n).length = n := by simp [ptrs]
end Go.Proofs.Ytaldoajdhbndhaa.Pa


/- The contracts of the codec's rule, and of the closure that reads or writes one number. -/

namespace Go.Proofs.Ytaldoajdhbndhaa.Pa

set_option linter.unusedVariables false

set_option linter.unusedSimpArgs false

open Go.RowKit Go.Proofs.Ytaldoajdhbndhaa.C

attribute [local go_sem] max2_int min2_int max_two min_two

/-- A rule's numbers. -/
def Rule.nums (r : Rule) : List Int := [r.id, r.pri, r.act, r.scope]
def ruleCells (r : Rule) : List Value := ints r.nums ++ [.string r.pat]
def RuleWf (r : Rule) : Prop := (∀ u ∈ r.nums, (Lit.int .i64 u).wf = true) ∧ r.pat.size ≤ maxLen
/-! ### One number, by the closure -/

end Go.Proofs.Ytaldoajdhbndhaa.Pa


/- Kinds: rules and entries in memory. -/

namespace Go.Proofs.Ytaldoajdhbndhaa.Pa

set_option linter.unusedVariables false

set_option linter.unusedSimpArgs false

open Go.RowKit Go.Proofs.Ytaldoajdhbndhaa.C

def ruleK : Ty Rule := Ty.iso (Ty.pair (Ty.int .i64) (Ty.pair (Ty.int .i64) (Ty.pair (Ty.int .i64) (Ty.pair (Ty.int .i64) Ty.str)))) (fun r => (r.id, r.pri, r.act, r.scope, r.pat))
theorem rule_open {w : World} {S : Nat → Prop} {r : Rule} {cs : List Value} (h : ruleK.K w S r cs) : cs = ruleCells r ∧ RuleWf r := by
  obtain ⟨_, _, rfl, ⟨rfl, w1⟩, _, _, rfl, ⟨rfl, w2⟩, _, _, rfl, ⟨rfl, w3⟩, _, _, rfl, ⟨rfl, w4⟩, rfl, w5⟩ := h
  refine ⟨rfl, ?_, w5⟩
  intro u hu
  simp [Rule.nums] at hu
  rcases hu with rfl | rfl | rfl | rfl <;> assumption
/-- An entry's numbers. -/
def Entry.nums (e : Entry) : List Int := [e.view, e.client, e.request, e.dflt, e.closed, e.fuel, e.stack]
def entryK : Ty Entry := Ty.iso (Ty.pair (Ty.int .i64) (Ty.pair (Ty.int .i64) (Ty.pair (Ty.int .i64) (Ty.pair (Ty.int .i64) (Ty.pair (Ty.int .i64) (Ty.pair (Ty.int .i64) (Ty.pair (Ty.int .i64) (Ty.pair (Ty.slice ruleK) (Ty.slice (Ty.int .i64))))))))))
  (fun e => (e.view, e.client, e.request, e.dflt, e.closed, e.fuel, e.stack, e.put, e.drop))
/-- An entry's cells: where its lists lie. -/
def EntryAt (w : World) (S : Nat → Prop) (e : Entry) (A1 : Option Addr) (n1 c1 : Nat) (A2 : Option Addr) (n2 c2 : Nat) : Prop :=
  (∀ u ∈ e.nums, (Lit.int .i64 u).wf = true) ∧ Ty.At ruleK w S A1 n1 c1 e.put ∧ Ty.At (Ty.int .i64) w S A2 n2 c2 e.drop
def entryCells (e : Entry) (A1 : Option Addr) (n1 c1 : Nat) (A2 : Option Addr) (n2 c2 : Nat) : List Value := ints e.nums ++ [.slice A1 n1 c1, .slice A2 n2 c2]
theorem entry_open {w : World} {S : Nat → Prop} {e : Entry} {cs : List Value} (h : entryK.K w S e cs) : ∃ A1 n1 c1 A2 n2 c2, cs = entryCells e A1 n1 c1 A2 n2 c2 ∧ EntryAt w S e A1 n1 c1 A2 n2 c2 := by
  obtain ⟨_, _, rfl, ⟨rfl, w1⟩, _, _, rfl, ⟨rfl, w2⟩, _, _, rfl, ⟨rfl, w3⟩, _, _, rfl, ⟨rfl, w4⟩, _, _, rfl, ⟨rfl, w5⟩, _, _, rfl, ⟨rfl, w6⟩, _, _, rfl, ⟨rfl, w7⟩, _, _, rfl, ⟨A1, n1, c1, rfl, h1⟩, A2, n2, c2, rfl, h2⟩ := h
  refine ⟨A1, n1, c1, A2, n2, c2, rfl, ?_, h1, h2⟩
  intro u hu
  simp [Entry.nums] at hu
  rcases hu with rfl | rfl | rfl | rfl | rfl | rfl | rfl <;> assumption
theorem entry_shut {w : World} {S : Nat → Prop} {e : Entry} {A1 : Option Addr} {n1 c1 : Nat} {A2 : Option Addr} {n2 c2 : Nat} (h : EntryAt w S e A1 n1 c1 A2 n2 c2) : entryK.K w S e (entryCells e A1 n1 c1 A2 n2 c2) := by
  have h0 := h.1
  simp [Entry.nums] at h0
  obtain ⟨w1, w2, w3, w4, w5, w6, w7⟩ := h0
  exact ⟨[_], _, rfl, ⟨rfl, w1⟩, [_], _, rfl, ⟨rfl, w2⟩, [_], _, rfl, ⟨rfl, w3⟩, [_], _, rfl, ⟨rfl, w4⟩, [_], _, rfl, ⟨rfl, w5⟩, [_], _, rfl, ⟨rfl, w6⟩, [_], _, rfl, ⟨rfl, w7⟩, [_], [_], rfl, ⟨A1, n1, c1, rfl, h.2.1⟩, A2, n2, c2, rfl, h.2.2⟩
theorem EntryAt.chg {w w' : World} {S M : Nat → Prop} {e : Entry} {A1 : Option Addr} {n1 c1 : Nat} {A2 : Option Addr} {n2 c2 : Nat} (h : EntryAt w S e A1 n1 c1 A2 n2 c2) (hc : Chg M w w') (hd : ∀ k, S k → ¬ M k) : EntryAt w' S e A1 n1 c1 A2 n2 c2 := ⟨h.1, h.2.1.chg hc hd, h.2.2.chg hc hd⟩
theorem EntryAt.mono {w : World} {S S' : Nat → Prop} {e : Entry} {A1 : Option Addr} {n1 c1 : Nat} {A2 : Option Addr} {n2 c2 : Nat} (h : EntryAt w S e A1 n1 c1 A2 n2 c2) (hd : ∀ k, S k → S' k) : EntryAt w S' e A1 n1 c1 A2 n2 c2 := ⟨h.1, h.2.1.mono hd, h.2.2.mono hd⟩
theorem EntryAt.bound {w : World} {S : Nat → Prop} {e : Entry} {A1 : Option Addr} {n1 c1 : Nat} {A2 : Option Addr} {n2 c2 : Nat} (h : EntryAt w S e A1 n1 c1 A2 n2 c2) : EntryAt w (fun k => S k ∧ k < w.heap.size) e A1 n1 c1 A2 n2 c2 := ⟨h.1, h.2.1.bound, h.2.2.bound⟩
/-- Cell j of an element of a slice that is read. -/
theorem elem_cell {w : World} {a : Addr} {i sz : Nat} {cs : List Value} (h : ∀ j u, cs[j]? = some u → w.cell? (a.add (i * sz + j)) = some u) (j : Nat) (u : Value) (hu : cs[j + 1]? = some u) : w.cell? ⟨(a.add (i * sz)).block, (a.add (i * sz)).off + (j + 1), none⟩ = some u := by
  have := h (j + 1) u hu
  rw [← C.add_add] at this
  generalize a.add (i * sz) = q at this ⊢
  rw [← this]
  congr 1
theorem elem_cell0 {w : World} {a : Addr} {i sz : Nat} {cs : List Value} (h : ∀ j u, cs[j]? = some u → w.cell? (a.add (i * sz + j)) = some u) (u : Value) (hu : cs[0]? = some u) : w.cell? (a.add (i * sz)) = some u := h 0 u hu
end Go.Proofs.Ytaldoajdhbndhaa.Pa


/- The contracts of the codec's message and record. -/

namespace Go.Proofs.Ytaldoajdhbndhaa.Pa

set_option linter.unusedVariables false

set_option linter.unusedSimpArgs false

open Go.RowKit Go.Proofs.Ytaldoajdhbndhaa.C

attribute [local go_sem] max2_int min2_int max_two min_two

structure Msg where
  kind : Int
  view : Int
  src : Int
  dst : Int
  op : Int
  commit : Int
  normal : Int
  log : List Entry
def Msg.nums (m : Msg) : List Int := [m.kind, m.view, m.src, m.dst, m.op, m.commit, m.normal]
structure Rec where
  kind : Int
  a : Int
  b : Int
  log : List Entry
def Rec.nums (m : Rec) : List Int := [m.kind, m.a, m.b]
def msgCells (m : Msg) (A1 : Option Addr) (n1 c1 : Nat) : List Value := ints m.nums ++ [.slice A1 n1 c1]
end Go.Proofs.Ytaldoajdhbndhaa.Pa


/- The contracts of number, within and a rule's Right, the program's and the document's. -/

namespace Go.Proofs.Ytaldoajdhbndhaa.Pa

set_option linter.unusedVariables false

set_option linter.unusedSimpArgs false

open Go.RowKit Go.Proofs.Ytaldoajdhbndhaa.C

attribute [local go_sem] max2_int min2_int max_two min_two

/-- Is a number right, from a least one on? -/
def numR (lo n : Int) : Bool := decide (lo ≤ n ∧ n ≤ 1099511627776)
def inR (lo hi n : Int) : Bool := decide (lo ≤ n ∧ n ≤ hi)
def ruleR (r : Rule) : Bool := decide (1 ≤ r.id ∧ r.id ≤ 1099511627776 ∧ 0 ≤ r.pri ∧ r.pri ≤ 1000 ∧ 0 ≤ r.act ∧ r.act ≤ 255 ∧ 1 ≤ r.scope ∧ r.scope ≤ 65535 ∧ (r.pat.size : Int) ≤ 256)
theorem number_any (n lo : Int) (w : World) : Calls Try.prog 70 #[.int .i64 n, .int .i64 lo] w fun e w' => e = .returned (.bool (numR lo n)) ∧ w = w' := by
  unfold numR
  by_cases h1 : lo ≤ n
  case neg =>
    rw [decide_eq_false (by omega)]
    go_enter Try.func70, Try.ntmps70
    go_wp2_with fail
    go_ret
    exact ⟨rfl, rfl⟩
  by_cases h2 : n ≤ 1099511627776
  case neg =>
    rw [decide_eq_false (by omega)]
    go_enter Try.func70, Try.ntmps70
    go_wp2_with fail
    go_ret
    exact ⟨rfl, rfl⟩
  rw [decide_eq_true (by omega)]
  go_enter Try.func70, Try.ntmps70
  go_wp2_with fail
  go_ret
  exact ⟨rfl, rfl⟩
set_option maxHeartbeats 4000000 in
set_option maxRecDepth 100000 in
theorem ruleright_any (r : Rule) (w : World) : Calls Try.prog 106 #[.agg (ruleCells r).toArray] w fun e w' => e = .returned (.bool (ruleR r)) ∧ Chg (fun _ => False) w w' := by
  unfold ruleR
  by_cases h1 : 1 ≤ r.id
  case neg =>
    rw [decide_eq_false (by omega)]
    show Calls Try.prog _ #[.agg #[.int .i64 r.id, .int .i64 r.pri, .int .i64 r.act, .int .i64 r.scope, .string r.pat]] w _
    go_enter Try.func106, Try.ntmps106
    go_wp2_with fail
    go_ret
    exact ⟨rfl, (Chg.refl _ w).alloc _⟩
  by_cases h2 : r.id ≤ 1099511627776
  case neg =>
    rw [decide_eq_false (by omega)]
    show Calls Try.prog _ #[.agg #[.int .i64 r.id, .int .i64 r.pri, .int .i64 r.act, .int .i64 r.scope, .string r.pat]] w _
    go_enter Try.func106, Try.ntmps106
    go_wp2_with fail
    go_ret
    exact ⟨rfl, (Chg.refl _ w).alloc _⟩
  by_cases h3 : 0 ≤ r.pri
  case neg =>
    rw [decide_eq_false (by omega)]
    show Calls Try.prog _ #[.agg #[.int .i64 r.id, .int .i64 r.pri, .int .i64 r.act, .int .i64 r.scope, .string r.pat]] w _
    go_enter Try.func106, Try.ntmps106
    go_wp2_with fail
    go_ret
    exact ⟨rfl, (Chg.refl _ w).alloc _⟩
  by_cases h4 : r.pri ≤ 1000
  case neg =>
    rw [decide_eq_false (by omega)]
    show Calls Try.prog _ #[.agg #[.int .i64 r.id, .int .i64 r.pri, .int .i64 r.act, .int .i64 r.scope, .string r.pat]] w _
    go_enter Try.func106, Try.ntmps106
    go_wp2_with fail
    go_ret
    exact ⟨rfl, (Chg.refl _ w).alloc _⟩
  by_cases h5 : 0 ≤ r.act
  case neg =>
    rw [decide_eq_false (by omega)]
    show Calls Try.prog _ #[.agg #[.int .i64 r.id, .int .i64 r.pri, .int .i64 r.act, .int .i64 r.scope, .string r.pat]] w _
    go_enter Try.func106, Try.ntmps106
    go_wp2_with fail
    go_ret
    exact ⟨rfl, (Chg.refl _ w).alloc _⟩
  by_cases h6 : r.act ≤ 255
  case neg =>
    rw [decide_eq_false (by omega)]
    show Calls Try.prog _ #[.agg #[.int .i64 r.id, .int .i64 r.pri, .int .i64 r.act, .int .i64 r.scope, .string r.pat]] w _
    go_enter Try.func106, Try.ntmps106
    go_wp2_with fail
    go_ret
    exact ⟨rfl, (Chg.refl _ w).alloc _⟩
  by_cases h7 : 1 ≤ r.scope
  case neg =>
    rw [decide_eq_false (by omega)]
    show Calls Try.prog _ #[.agg #[.int .i64 r.id, .int .i64 r.pri, .int .i64 r.act, .int .i64 r.scope, .string r.pat]] w _
    go_enter Try.func106, Try.ntmps106
    go_wp2_with fail
    go_ret
    exact ⟨rfl, (Chg.refl _ w).alloc _⟩
  by_cases h8 : r.scope ≤ 65535
  case neg =>
    rw [decide_eq_false (by omega)]
    show Calls Try.prog _ #[.agg #[.int .i64 r.id, .int .i64 r.pri, .int .i64 r.act, .int .i64 r.scope, .string r.pat]] w _
    go_enter Try.func106, Try.ntmps106
    go_wp2_with fail
    go_ret
    exact ⟨rfl, (Chg.refl _ w).alloc _⟩
  by_cases h9 : (r.pat.size : Int) ≤ 256
  case neg =>
    rw [decide_eq_false (by omega)]
    show Calls Try.prog _ #[.agg #[.int .i64 r.id, .int .i64 r.pri, .int .i64 r.act, .int .i64 r.scope, .string r.pat]] w _
    go_enter Try.func106, Try.ntmps106
    go_wp2_with fail
    go_ret
    exact ⟨rfl, (Chg.refl _ w).alloc _⟩
  rw [decide_eq_true (by omega)]
  show Calls Try.prog _ #[.agg #[.int .i64 r.id, .int .i64 r.pri, .int .i64 r.act, .int .i64 r.scope, .string r.pat]] w _
  go_enter Try.func106, Try.ntmps106
  go_wp2_with fail
  go_ret
  exact ⟨rfl, (Chg.refl _ w).alloc _⟩

end Go.Proofs.Ytaldoajdhbndhaa.Pa


/- The contracts of slices.ContainsFunc at rules and numbers. -/

namespace Go.Proofs.Ytaldoajdhbndhaa.Pa

set_option linter.unusedVariables false

set_option linter.unusedSimpArgs false

open Go.RowKit Go.Proofs.Ytaldoajdhbndhaa.C

attribute [local go_sem] max2_int min2_int max_two min_two

theorem ruleq_clo (r : Rule) (w : World)  : Calls Try.prog 105 #[.agg (ruleCells r).toArray] w fun e w' => e = .returned (.bool (!(ruleR r))) ∧ Chg (fun _ => False) w w' := by
  show Calls Try.prog _ #[.agg #[.int .i64 r.id, .int .i64 r.pri, .int .i64 r.act, .int .i64 r.scope, .string r.pat]] w _
  go_enter Try.func105, Try.ntmps105
  go_wp2_with fail
  refine (ruleright_any r _).mono ?_
  rintro e w1 ⟨rfl, h1⟩
  have H1 := hid (((Chg.refl (fun _ => False) w).alloc _).trans h1 (fun _ h _ => h))
  clear h1
  go_wp2_with fail
  go_ret
  exact ⟨rfl, H1.out⟩
/-- slices.IndexFunc: is there one that isn't right? -/
def RuleqIdx (xs : List (Rule)) (w : World) (e : Ending) (w' : World) : Prop := (∃ i : Int, e = .returned (.int .i64 i) ∧ decide (0 ≤ i) = !(xs.all (fun r => ruleR r))) ∧ Chg (fun _ => False) w w'
theorem ruleq_allk {xs : List (Rule)} {k : Nat} {r : Rule} (h : xs[k]? = some r) : (xs.take (k + 1)).all (fun r => ruleR r) = ((xs.take k).all (fun r => ruleR r) && ruleR r) := by
  rw [List.take_add_one, h, Option.toList_some, List.all_append]
  simp
theorem ruleq_alln {xs : List (Rule)} {k : Nat} (h : (xs.take k).all (fun r => ruleR r) = false) : xs.all (fun r => ruleR r) = false := by
  rw [← List.take_append_drop k xs, List.all_append, h]
  rfl
set_option maxHeartbeats 4000000 in
set_option maxRecDepth 100000 in
theorem ruleq_idx {R : Nat → Prop} {A : Option Addr} {n c : Nat} {xs : List (Rule)} {w : World} (hl : Ty.At ruleK w R A n c xs) :
    Calls Try.prog 111 #[.slice A n c, .func (.func 105) #[] #[]] w (RuleqIdx xs w) := by
  have HL := hid hl
  have hn2 : (n : Int) ≤ 9223372036854775807 := by have q1 := hl.2.1; have q2 := hl.2.2.1; simp [maxLen] at q2; omega
  have eg : ∀ args w, (callFunc 105 args).run Try.prog w = .ok (.enter 105 args) w := Go.Proofs.enters_of Try.func105 (by kernel_rfl) rfl
  clear hl
  go_enter Try.func111, Try.ntmps111
  go_wp2_with fail
  go_loopw [8] (fun i wr => ∃ k : Nat, k ≤ n ∧ i = .int .i64 k ∧ (xs.take k).all (fun r => ruleR r) = true ∧ Chg (fun _ => False) w wr) (fun i _ => n - (intOf i).toNat)
  case atStart => exact ⟨0, Nat.zero_le _, rfl, rfl, Chg.refl _ _⟩
  case round =>
    obtain ⟨k, hk, rfl, hp, hC⟩ := hrel
    have HP := hid hp
    have HC := hid hC
    clear hp
    by_cases hlt : k < n
    · obtain ⟨r, hr⟩ : ∃ r, xs[k]? = some r := ⟨_, List.getElem?_eq_getElem (by have := HL.out.1; omega)⟩
      obtain ⟨a, cs, ha, haR, hK, hcs⟩ := HL.out.get (by decide) hr
      obtain ⟨rfl, hrw⟩ := rule_open hK
      clear hrw
      subst ha
      have hcs2 : ∀ j u, (ruleCells r)[j]? = some u → wr.cell? (a.add (k * 5 + j)) = some u := fun j u hj => hC.cell (hcs j u hj) (fun h => h)
      have x0 := elem_cell0 hcs2 _ rfl
      have x1 := elem_cell hcs2 0 _ rfl
      have x2 := elem_cell hcs2 1 _ rfl
      have x3 := elem_cell hcs2 2 _ rfl
      have x4 := elem_cell hcs2 3 _ rfl
      have HN := hid (ruleq_allk hr)
      have HX := hid (ruleq_alln (xs := xs) (k := k + 1))
      clear hcs hK hcs2 hr haR hC
      have hlt2 : (k : Int) < (n : Int) := by omega
      go_wp2_with fail
      refine (ruleq_clo r _).mono ?_
      rintro e w2 ⟨rfl, h2⟩
      have HC2 := hid (HC.out.trans h2 (fun _ h _ => h))
      clear h2 x0 x1 x2 x3 x4
      cases hrr : ruleR r
      · have HF := hid (HX.out (by rw [HN.out, hrr, Bool.and_false]))
        clear hrr
        go_wp2_with fail
        go_ret
        exact ⟨⟨(k : Int), rfl, by rw [HF.out]; simp⟩, HC2.out⟩
      · have HF := hid (show (xs.take (k + 1)).all (fun r => ruleR r) = true by rw [HN.out, HP.out, hrr]; rfl)
        clear hrr
        go_wp2_with fail
        go_roundw
        case measure => simp [intOf]; omega
        case rel => first | exact ⟨k + 1, hlt, by go_num, HF.out, HC2.out⟩ | ((repeat apply Exists.intro); exact ⟨⟨k + 1, hlt, by go_num, HF.out, HC2.out⟩, rfl⟩)
    · clear eg hC
      have hkn : ¬ (k : Int) < (n : Int) := by omega
      go_wp2_with fail
      go_ret
      have hp := HP.out
      rw [List.take_of_length_le (by have := HL.out.1; omega)] at hp
      exact ⟨⟨-1, rfl, by rw [hp]; rfl⟩, HC.out⟩
set_option maxHeartbeats 4000000 in
set_option maxRecDepth 100000 in
theorem ruleq_contains {R : Nat → Prop} {A : Option Addr} {n c : Nat} {xs : List (Rule)} {w : World} (hl : Ty.At ruleK w R A n c xs) :
    Calls Try.prog 104 #[.slice A n c, .func (.func 105) #[] #[]] w fun e w' => e = .returned (.bool (!(xs.all (fun r => ruleR r)))) ∧ Chg (fun _ => False) w w' := by
  have HL := hid hl
  clear hl
  go_enter Try.func104, Try.ntmps104
  go_wp2_with fail
  refine (ruleq_idx HL.out).mono ?_
  rintro e w1 ⟨⟨i, rfl, hi⟩, hc⟩
  have HI := hid hi
  have HC := hid hc
  clear hi hc
  go_wp2_with fail
  go_ret
  exact ⟨by rw [← HI.out]; rfl, HC.out⟩

theorem numq_clo (r : Int) (w : World)  : Calls Try.prog 108 #[.int .i64 r] w fun e w' => e = .returned (.bool (!(numR 1 r))) ∧ Chg (fun _ => False) w w' := by
  go_enter Try.func108, Try.ntmps108
  go_wp2_with fail
  refine (number_any r 1 _).mono ?_
  rintro e w1 ⟨rfl, rfl⟩
  go_wp2_with fail
  go_ret
  exact ⟨rfl, Chg.refl _ _⟩
/-- slices.IndexFunc: is there one that isn't right? -/
def NumqIdx (xs : List (Int)) (w : World) (e : Ending) (w' : World) : Prop := (∃ i : Int, e = .returned (.int .i64 i) ∧ decide (0 ≤ i) = !(xs.all (fun r => numR 1 r))) ∧ Chg (fun _ => False) w w'
theorem numq_allk {xs : List (Int)} {k : Nat} {r : Int} (h : xs[k]? = some r) : (xs.take (k + 1)).all (fun r => numR 1 r) = ((xs.take k).all (fun r => numR 1 r) && numR 1 r) := by
  rw [List.take_add_one, h, Option.toList_some, List.all_append]
  simp
theorem numq_alln {xs : List (Int)} {k : Nat} (h : (xs.take k).all (fun r => numR 1 r) = false) : xs.all (fun r => numR 1 r) = false := by
  rw [← List.take_append_drop k xs, List.all_append, h]
  rfl
set_option maxHeartbeats 4000000 in
set_option maxRecDepth 100000 in
theorem numq_idx {R : Nat → Prop} {A : Option Addr} {n c : Nat} {xs : List (Int)} {w : World} (hl : Ty.At (Ty.int .i64) w R A n c xs) :
    Calls Try.prog 112 #[.slice A n c, .func (.func 108) #[] #[]] w (NumqIdx xs w) := by
  have HL := hid hl
  have hn2 : (n : Int) ≤ 9223372036854775807 := by have q1 := hl.2.1; have q2 := hl.2.2.1; simp [maxLen] at q2; omega
  have eg : ∀ args w, (callFunc 108 args).run Try.prog w = .ok (.enter 108 args) w := Go.Proofs.enters_of Try.func108 (by kernel_rfl) rfl
  clear hl
  go_enter Try.func112, Try.ntmps112
  go_wp2_with fail
  go_loopw [8] (fun i wr => ∃ k : Nat, k ≤ n ∧ i = .int .i64 k ∧ (xs.take k).all (fun r => numR 1 r) = true ∧ Chg (fun _ => False) w wr) (fun i _ => n - (intOf i).toNat)
  case atStart => exact ⟨0, Nat.zero_le _, rfl, rfl, Chg.refl _ _⟩
  case round =>
    obtain ⟨k, hk, rfl, hp, hC⟩ := hrel
    have HP := hid hp
    have HC := hid hC
    clear hp
    by_cases hlt : k < n
    · obtain ⟨r, hr⟩ : ∃ r, xs[k]? = some r := ⟨_, List.getElem?_eq_getElem (by have := HL.out.1; omega)⟩
      obtain ⟨a, cs, ha, haR, hK, hcs⟩ := HL.out.get (by decide) hr
      obtain ⟨rfl, hrw⟩ := (id hK)
      clear hrw
      subst ha
      have hcs2 : ∀ j u, ([Value.int .i64 r])[j]? = some u → wr.cell? (a.add (k * 1 + j)) = some u := fun j u hj => hC.cell (hcs j u hj) (fun h => h)
      have x0 := elem_cell0 hcs2 _ rfl
      rw [Nat.mul_one] at x0
      have HN := hid (numq_allk hr)
      have HX := hid (numq_alln (xs := xs) (k := k + 1))
      clear hcs hK hcs2 hr haR hC
      have hlt2 : (k : Int) < (n : Int) := by omega
      go_wp2_with fail
      refine (numq_clo r _).mono ?_
      rintro e w2 ⟨rfl, h2⟩
      have HC2 := hid (HC.out.trans h2 (fun _ h _ => h))
      clear h2 x0
      cases hrr : numR 1 r
      · have HF := hid (HX.out (by rw [HN.out, hrr, Bool.and_false]))
        clear hrr
        go_wp2_with fail
        go_ret
        exact ⟨⟨(k : Int), rfl, by rw [HF.out]; simp⟩, HC2.out⟩
      · have HF := hid (show (xs.take (k + 1)).all (fun r => numR 1 r) = true by rw [HN.out, HP.out, hrr]; rfl)
        clear hrr
        go_wp2_with fail
        go_roundw
        case measure => simp [intOf]; omega
        case rel => first | exact ⟨k + 1, hlt, by go_num, HF.out, HC2.out⟩ | ((repeat apply Exists.intro); exact ⟨⟨k + 1, hlt, by go_num, HF.out, HC2.out⟩, rfl⟩)
    · clear eg hC
      have hkn : ¬ (k : Int) < (n : Int) := by omega
      go_wp2_with fail
      go_ret
      have hp := HP.out
      rw [List.take_of_length_le (by have := HL.out.1; omega)] at hp
      exact ⟨⟨-1, rfl, by rw [hp]; rfl⟩, HC.out⟩
set_option maxHeartbeats 4000000 in
set_option maxRecDepth 100000 in
theorem numq_contains {R : Nat → Prop} {A : Option Addr} {n c : Nat} {xs : List (Int)} {w : World} (hl : Ty.At (Ty.int .i64) w R A n c xs) :
    Calls Try.prog 107 #[.slice A n c, .func (.func 108) #[] #[]] w fun e w' => e = .returned (.bool (!(xs.all (fun r => numR 1 r)))) ∧ Chg (fun _ => False) w w' := by
  have HL := hid hl
  clear hl
  go_enter Try.func107, Try.ntmps107
  go_wp2_with fail
  refine (numq_idx HL.out).mono ?_
  rintro e w1 ⟨⟨i, rfl, hi⟩, hc⟩
  have HI := hid hi
  have HC := hid hc
  clear hi hc
  go_wp2_with fail
  go_ret
  exact ⟨by rw [← HI.out]; rfl, HC.out⟩
end Go.Proofs.Ytaldoajdhbndhaa.Pa


/- The contracts of an entry's Right, the program's and the document's. -/

namespace Go.Proofs.Ytaldoajdhbndhaa.Pa

set_option linter.unusedVariables false

set_option linter.unusedSimpArgs false

open Go.RowKit Go.Proofs.Ytaldoajdhbndhaa.C

attribute [local go_sem] max2_int min2_int max_two min_two

def entryR (e : Entry) : Bool := numR 0 e.view && numR 1 e.client && numR 1 e.request && numR (-1) e.dflt && numR (-1) e.closed && numR (-1) e.fuel && numR (-1) e.stack && decide (e.put.length ≤ 16) && decide (e.drop.length ≤ 16) && e.put.all (fun r => ruleR r) && e.drop.all (fun r => numR 1 r)
set_option maxHeartbeats 4000000 in
set_option maxRecDepth 100000 in
theorem entryright_any {R : Nat → Prop} {e : Entry} {A1 : Option Addr} {n1 c1 : Nat} {A2 : Option Addr} {n2 c2 : Nat} {w : World} (he : EntryAt w R e A1 n1 c1 A2 n2 c2) :
    Calls Try.prog 74 #[.agg (entryCells e A1 n1 c1 A2 n2 c2).toArray] w fun e' w' => e' = .returned (.bool (entryR e)) ∧ Chg (fun _ => False) w w' := by
  show Calls Try.prog _ #[.agg #[.int .i64 e.view, .int .i64 e.client, .int .i64 e.request, .int .i64 e.dflt, .int .i64 e.closed, .int .i64 e.fuel, .int .i64 e.stack, .slice A1 n1 c1, .slice A2 n2 c2]] w _
  obtain ⟨w0, hwb⟩ : ∃ w0, w0 = (w.alloc (.cells #[.int .i64 e.view, .int .i64 e.client, .int .i64 e.request, .int .i64 e.dflt, .int .i64 e.closed, .int .i64 e.fuel, .int .i64 e.stack, .slice A1 n1 c1, .slice A2 n2 c2] 56)).alloc (.cells #[.int .i64 e.dflt, .int .i64 e.closed, .int .i64 e.fuel, .int .i64 e.stack, .slice A1 n1 c1, .slice A2 n2 c2] 54) := ⟨_, rfl⟩
  have CB := hid (show Chg (fun _ => False) w w0 by rw [hwb]; exact ((Chg.refl _ w).alloc _).alloc _)
  have B1 := hid (show w0.heap[w.heap.size]? = some (.cells #[.int .i64 e.view, .int .i64 e.client, .int .i64 e.request, .int .i64 e.dflt, .int .i64 e.closed, .int .i64 e.fuel, .int .i64 e.stack, .slice A1 n1 c1, .slice A2 n2 c2] 56 (0, 0)) by rw [hwb]; exact blk_alloc (blk_new w _) _)
  have B2 := hid (show w0.heap[w.heap.size + 1]? = some (.cells #[.int .i64 e.dflt, .int .i64 e.closed, .int .i64 e.fuel, .int .i64 e.stack, .slice A1 n1 c1, .slice A2 n2 c2] 54 (0, 0)) by
    rw [hwb]
    have := blk_new (w.alloc (.cells #[.int .i64 e.view, .int .i64 e.client, .int .i64 e.request, .int .i64 e.dflt, .int .i64 e.closed, .int .i64 e.fuel, .int .i64 e.stack, .slice A1 n1 c1, .slice A2 n2 c2] 56)) (.cells #[.int .i64 e.dflt, .int .i64 e.closed, .int .i64 e.fuel, .int .i64 e.stack, .slice A1 n1 c1, .slice A2 n2 c2] 54)
    simpa using this)
  have HQ1 := hid (he.2.1.chg CB.out (fun _ _ h => h))
  have HQ2 := hid (he.2.2.chg CB.out (fun _ _ h => h))
  have L1 := hid he.2.1.1
  have L2 := hid he.2.2.1
  have hm1' : (n1 : Int) ≤ 9223372036854775807 := by have q1 := he.2.1.2.1; have q2 := he.2.1.2.2.1; simp [maxLen] at q2; omega
  have hm2' : (n2 : Int) ≤ 9223372036854775807 := by have q1 := he.2.2.2.1; have q2 := he.2.2.2.2.1; simp [maxLen] at q2; omega
  clear he
  go_enter Try.func74, Try.ntmps74
  go_wp2_with fail
  rw [← hwb]
  clear hwb
  have x0 : w0.cell? ⟨w.heap.size, 0, none⟩ = _ := cellAt B1.out 0
  have x1 : w0.cell? ⟨w.heap.size, 1, none⟩ = _ := cellAt B1.out 1
  have x2 : w0.cell? ⟨w.heap.size, 2, none⟩ = _ := cellAt B1.out 2
  have y0 : w0.cell? ⟨w.heap.size + 1, 0, none⟩ = _ := cellAt B2.out 0
  have y1 : w0.cell? ⟨w.heap.size + 1, 1, none⟩ = _ := cellAt B2.out 1
  have y2 : w0.cell? ⟨w.heap.size + 1, 2, none⟩ = _ := cellAt B2.out 2
  have y3 : w0.cell? ⟨w.heap.size + 1, 3, none⟩ = _ := cellAt B2.out 3
  have y4 : w0.cell? ⟨w.heap.size + 1, 4, none⟩ = _ := cellAt B2.out 4
  have y5 : w0.cell? ⟨w.heap.size + 1, 5, none⟩ = _ := cellAt B2.out 5
  simp only [List.getElem?_toArray, List.getElem?_cons_zero, List.getElem?_cons_succ] at x0 x1 x2 y0 y1 y2 y3 y4 y5
  go_wp2_with fail
  refine (number_any e.view 0 _).mono ?_
  rintro e' w1 ⟨rfl, rfl⟩
  cases g0 : numR 0 e.view
  · have G := hid g0
    clear g0
    go_wp2_with fail
    go_ret
    exact ⟨by rw [show entryR e = false by simp [entryR, G.out]]; rfl, CB.out⟩
  have G0 := hid g0
  clear g0
  go_wp2_with fail
  refine (number_any e.client 1 _).mono ?_
  rintro e' w1 ⟨rfl, rfl⟩
  cases g1 : numR 1 e.client
  · have G := hid g1
    clear g1
    go_wp2_with fail
    go_ret
    exact ⟨by rw [show entryR e = false by simp [entryR, G.out]]; rfl, CB.out⟩
  have G1 := hid g1
  clear g1
  go_wp2_with fail
  refine (number_any e.request 1 _).mono ?_
  rintro e' w1 ⟨rfl, rfl⟩
  cases g2 : numR 1 e.request
  · have G := hid g2
    clear g2
    go_wp2_with fail
    go_ret
    exact ⟨by rw [show entryR e = false by simp [entryR, G.out]]; rfl, CB.out⟩
  have G2 := hid g2
  clear g2
  go_wp2_with fail
  refine (number_any e.dflt (-1) _).mono ?_
  rintro e' w1 ⟨rfl, rfl⟩
  cases g3 : numR (-1) e.dflt
  · have G := hid g3
    clear g3
    go_wp2_with fail
    go_ret
    exact ⟨by rw [show entryR e = false by simp [entryR, G.out]]; rfl, CB.out⟩
  have G3 := hid g3
  clear g3
  go_wp2_with fail
  refine (number_any e.closed (-1) _).mono ?_
  rintro e' w1 ⟨rfl, rfl⟩
  cases g4 : numR (-1) e.closed
  · have G := hid g4
    clear g4
    go_wp2_with fail
    go_ret
    exact ⟨by rw [show entryR e = false by simp [entryR, G.out]]; rfl, CB.out⟩
  have G4 := hid g4
  clear g4
  go_wp2_with fail
  refine (number_any e.fuel (-1) _).mono ?_
  rintro e' w1 ⟨rfl, rfl⟩
  cases g5 : numR (-1) e.fuel
  · have G := hid g5
    clear g5
    go_wp2_with fail
    go_ret
    exact ⟨by rw [show entryR e = false by simp [entryR, G.out]]; rfl, CB.out⟩
  have G5 := hid g5
  clear g5
  go_wp2_with fail
  refine (number_any e.stack (-1) _).mono ?_
  rintro e' w1 ⟨rfl, rfl⟩
  cases g6 : numR (-1) e.stack
  · have G := hid g6
    clear g6
    go_wp2_with fail
    go_ret
    exact ⟨by rw [show entryR e = false by simp [entryR, G.out]]; rfl, CB.out⟩
  have G6 := hid g6
  clear g6
  by_cases k1 : (n1 : Int) ≤ 16
  case neg =>
    have G := hid (show entryR e = false by unfold entryR; rw [decide_eq_false (show ¬ e.put.length ≤ 16 by have := L1.out; omega)]; simp)
    go_wp2_with fail
    go_ret
    exact ⟨by rw [G.out]; rfl, CB.out⟩
  by_cases k2 : (n2 : Int) ≤ 16
  case neg =>
    have G := hid (show entryR e = false by unfold entryR; rw [decide_eq_false (show ¬ e.drop.length ≤ 16 by have := L2.out; omega)]; simp)
    go_wp2_with fail
    go_ret
    exact ⟨by rw [G.out]; rfl, CB.out⟩
  go_wp2_with fail
  refine (ruleq_contains HQ1.out).mono ?_
  rintro e' w2 ⟨rfl, h2⟩
  have C2 := hid h2
  have z5 := h2.cell y5 (fun h => h)
  clear h2
  cases g8 : e.put.all (fun r => ruleR r)
  · have G := hid (show entryR e = false by simp only [entryR, g8, Bool.and_false, Bool.false_and])
    clear g8
    go_wp2_with fail
    go_ret
    exact ⟨by rw [G.out]; rfl, CB.out.trans C2.out (fun _ h _ => h)⟩
  have G8 := hid g8
  clear g8
  go_wp2_with fail
  refine (numq_contains (HQ2.out.chg C2.out (fun _ _ h => h))).mono ?_
  rintro e' w3 ⟨rfl, h3⟩
  have C3 := hid h3
  clear h3
  have GE := hid (show entryR e = e.drop.all (fun r => numR 1 r) by
    unfold entryR
    rw [G0.out, G1.out, G2.out, G3.out, G4.out, G5.out, G6.out, G8.out, decide_eq_true (show e.put.length ≤ 16 by have := L1.out; omega), decide_eq_true (show e.drop.length ≤ 16 by have := L2.out; omega)]
    rfl)
  go_wp2_with fail
  go_ret
  exact ⟨by rw [GE.out]; simp, (CB.out.trans C2.out (fun _ h _ => h)).trans C3.out (fun _ h _ => h)⟩

end Go.Proofs.Ytaldoajdhbndhaa.Pa


/- The contracts of slices.ContainsFunc at entries, and of Right at messages and records, the program's and the document's. -/

namespace Go.Proofs.Ytaldoajdhbndhaa.Pa

set_option linter.unusedVariables false

set_option linter.unusedSimpArgs false

open Go.RowKit Go.Proofs.Ytaldoajdhbndhaa.C

attribute [local go_sem] max2_int min2_int max_two min_two

theorem entq_clo {R : Nat → Prop} {r : Entry} {E1 : Option Addr} {m1 d1 : Nat} {E2 : Option Addr} {m2 d2 : Nat} (w : World) (he : EntryAt w R r E1 m1 d1 E2 m2 d2) : Calls Try.prog 101 #[.agg (entryCells r E1 m1 d1 E2 m2 d2).toArray] w fun e w' => e = .returned (.bool (!(entryR r))) ∧ Chg (fun _ => False) w w' := by
  show Calls Try.prog _ #[.agg #[.int .i64 r.view, .int .i64 r.client, .int .i64 r.request, .int .i64 r.dflt, .int .i64 r.closed, .int .i64 r.fuel, .int .i64 r.stack, .slice E1 m1 d1, .slice E2 m2 d2]] w _
  have HE := hid he
  clear he
  go_enter Try.func101, Try.ntmps101
  go_wp2_with fail
  refine (entryright_any (e := r) (HE.out.chg ((Chg.refl (fun _ => False) w).alloc _) (fun _ _ h => h))).mono ?_
  rintro e w1 ⟨rfl, h1⟩
  have H1 := hid (((Chg.refl (fun _ => False) w).alloc _).trans h1 (fun _ h _ => h))
  clear h1
  go_wp2_with fail
  go_ret
  exact ⟨rfl, H1.out⟩
/-- slices.IndexFunc: is there one that isn't right? -/
def EntqIdx (xs : List (Entry)) (w : World) (e : Ending) (w' : World) : Prop := (∃ i : Int, e = .returned (.int .i64 i) ∧ decide (0 ≤ i) = !(xs.all (fun r => entryR r))) ∧ Chg (fun _ => False) w w'
theorem entq_allk {xs : List (Entry)} {k : Nat} {r : Entry} (h : xs[k]? = some r) : (xs.take (k + 1)).all (fun r => entryR r) = ((xs.take k).all (fun r => entryR r) && entryR r) := by
  rw [List.take_add_one, h, Option.toList_some, List.all_append]
  simp
theorem entq_alln {xs : List (Entry)} {k : Nat} (h : (xs.take k).all (fun r => entryR r) = false) : xs.all (fun r => entryR r) = false := by
  rw [← List.take_append_drop k xs, List.all_append, h]
  rfl
set_option maxHeartbeats 4000000 in
set_option maxRecDepth 100000 in
theorem entq_idx {R : Nat → Prop} {A : Option Addr} {n c : Nat} {xs : List (Entry)} {w : World} (hl : Ty.At entryK w R A n c xs) :
    Calls Try.prog 109 #[.slice A n c, .func (.func 101) #[] #[]] w (EntqIdx xs w) := by
  have HL := hid hl
  have hn2 : (n : Int) ≤ 9223372036854775807 := by have q1 := hl.2.1; have q2 := hl.2.2.1; simp [maxLen] at q2; omega
  have eg : ∀ args w, (callFunc 101 args).run Try.prog w = .ok (.enter 101 args) w := Go.Proofs.enters_of Try.func101 (by kernel_rfl) rfl
  clear hl
  go_enter Try.func109, Try.ntmps109
  go_wp2_with fail
  go_loopw [8] (fun i wr => ∃ k : Nat, k ≤ n ∧ i = .int .i64 k ∧ (xs.take k).all (fun r => entryR r) = true ∧ Chg (fun _ => False) w wr) (fun i _ => n - (intOf i).toNat)
  case atStart => exact ⟨0, Nat.zero_le _, rfl, rfl, Chg.refl _ _⟩
  case round =>
    obtain ⟨k, hk, rfl, hp, hC⟩ := hrel
    have HP := hid hp
    have HC := hid hC
    clear hp
    by_cases hlt : k < n
    · obtain ⟨r, hr⟩ : ∃ r, xs[k]? = some r := ⟨_, List.getElem?_eq_getElem (by have := HL.out.1; omega)⟩
      obtain ⟨a, cs, ha, haR, hK, hcs⟩ := HL.out.get (by decide) hr
      obtain ⟨E1, m1, d1, E2, m2, d2, rfl, hrw⟩ := entry_open (id hK)
      have HRW := hid hrw
      clear hrw
      subst ha
      have hcs2 : ∀ j u, (entryCells r E1 m1 d1 E2 m2 d2)[j]? = some u → wr.cell? (a.add (k * 9 + j)) = some u := fun j u hj => hC.cell (hcs j u hj) (fun h => h)
      have x0 := elem_cell0 hcs2 _ rfl
      have x1 := elem_cell hcs2 0 _ rfl
      have x2 := elem_cell hcs2 1 _ rfl
      have x3 := elem_cell hcs2 2 _ rfl
      have x4 := elem_cell hcs2 3 _ rfl
      have x5 := elem_cell hcs2 4 _ rfl
      have x6 := elem_cell hcs2 5 _ rfl
      have x7 := elem_cell hcs2 6 _ rfl
      have x8 := elem_cell hcs2 7 _ rfl
      have HN := hid (entq_allk hr)
      have HX := hid (entq_alln (xs := xs) (k := k + 1))
      clear hcs hK hcs2 hr haR hC
      have hlt2 : (k : Int) < (n : Int) := by omega
      go_wp2_with fail
      refine (entq_clo _ (HRW.out.chg HC.out (fun _ _ h => h))).mono ?_
      rintro e w2 ⟨rfl, h2⟩
      have HC2 := hid (HC.out.trans h2 (fun _ h _ => h))
      clear h2 x0 x1 x2 x3 x4 x5 x6 x7 x8
      cases hrr : entryR r
      · have HF := hid (HX.out (by rw [HN.out, hrr, Bool.and_false]))
        clear hrr
        go_wp2_with fail
        go_ret
        exact ⟨⟨(k : Int), rfl, by rw [HF.out]; simp⟩, HC2.out⟩
      · have HF := hid (show (xs.take (k + 1)).all (fun r => entryR r) = true by rw [HN.out, HP.out, hrr]; rfl)
        clear hrr
        go_wp2_with fail
        go_roundw
        case measure => simp [intOf]; omega
        case rel => first | exact ⟨k + 1, hlt, by go_num, HF.out, HC2.out⟩ | ((repeat apply Exists.intro); exact ⟨⟨k + 1, hlt, by go_num, HF.out, HC2.out⟩, rfl⟩)
    · clear eg hC
      have hkn : ¬ (k : Int) < (n : Int) := by omega
      go_wp2_with fail
      go_ret
      have hp := HP.out
      rw [List.take_of_length_le (by have := HL.out.1; omega)] at hp
      exact ⟨⟨-1, rfl, by rw [hp]; rfl⟩, HC.out⟩
set_option maxHeartbeats 4000000 in
set_option maxRecDepth 100000 in
theorem entq_contains {R : Nat → Prop} {A : Option Addr} {n c : Nat} {xs : List (Entry)} {w : World} (hl : Ty.At entryK w R A n c xs) :
    Calls Try.prog 80 #[.slice A n c, .func (.func 101) #[] #[]] w fun e w' => e = .returned (.bool (!(xs.all (fun r => entryR r)))) ∧ Chg (fun _ => False) w w' := by
  have HL := hid hl
  clear hl
  go_enter Try.func80, Try.ntmps80
  go_wp2_with fail
  refine (entq_idx HL.out).mono ?_
  rintro e w1 ⟨⟨i, rfl, hi⟩, hc⟩
  have HI := hid hi
  have HC := hid hc
  clear hi hc
  go_wp2_with fail
  go_ret
  exact ⟨by rw [← HI.out]; rfl, HC.out⟩

def logR (lo hi : Int) (l : List Entry) : Bool := decide (lo ≤ (l.length : Int) ∧ (l.length : Int) ≤ hi) && l.all (fun e => entryR e)
set_option maxHeartbeats 4000000 in
set_option maxRecDepth 100000 in
theorem logged_any {R : Nat → Prop} {A : Option Addr} {n c : Nat} {xs : List Entry} {w : World} (hl : Ty.At entryK w R A n c xs) (lo hi : Int) :
    Calls Try.prog 71 #[.slice A n c, .int .i64 lo, .int .i64 hi] w fun e w' => e = .returned (.bool (logR lo hi xs)) ∧ Chg (fun _ => False) w w' := by
  have HL := hid hl
  have L1 := hid hl.1
  clear hl
  by_cases h1 : lo ≤ (n : Int)
  case neg =>
    have G := hid (show logR lo hi xs = false by unfold logR; rw [decide_eq_false (by have := L1.out; omega)]; rfl)
    go_enter Try.func71, Try.ntmps71
    go_wp2_with fail
    go_ret
    exact ⟨by rw [G.out]; rfl, Chg.refl _ _⟩
  by_cases h2 : (n : Int) ≤ hi
  case neg =>
    have G := hid (show logR lo hi xs = false by unfold logR; rw [decide_eq_false (by have := L1.out; omega)]; rfl)
    go_enter Try.func71, Try.ntmps71
    go_wp2_with fail
    go_ret
    exact ⟨by rw [G.out]; rfl, Chg.refl _ _⟩
  have G := hid (show logR lo hi xs = xs.all (fun e => entryR e) by unfold logR; rw [decide_eq_true (by have := L1.out; omega)]; rfl)
  go_enter Try.func71, Try.ntmps71
  go_wp2_with fail
  refine (entq_contains HL.out).mono ?_
  rintro e w1 ⟨rfl, h1⟩
  have H1 := hid h1
  clear h1
  go_wp2_with fail
  go_ret
  exact ⟨by rw [G.out]; simp, H1.out⟩

end Go.Proofs.Ytaldoajdhbndhaa.Pa


/- The contracts of Right at messages and records, the program's and the document's. -/

namespace Go.Proofs.Ytaldoajdhbndhaa.Pa

set_option linter.unusedVariables false

set_option linter.unusedSimpArgs false

open Go.RowKit Go.Proofs.Ytaldoajdhbndhaa.C

attribute [local go_sem] max2_int min2_int max_two min_two

def msgR (m : Msg) : Bool := inR 1 8 m.kind && numR 0 m.view && numR 0 m.normal && inR 0 6 m.src && inR 0 6 m.dst && inR 0 64 m.op && inR 0 64 m.commit && (if m.kind = 1 then logR 1 1 m.log else if m.kind = 5 ∨ m.kind = 6 ∨ m.kind = 8 then logR 0 64 m.log else decide (m.log.length = 0))
theorem numR_in {lo n hi : Int} (h1 : lo ≤ n) (h2 : n ≤ hi) : inR lo hi n = true := decide_eq_true ⟨h1, h2⟩
theorem numR_no1 {lo n hi : Int} (h1 : ¬ lo ≤ n) : inR lo hi n = false := decide_eq_false (fun h => h1 h.1)
theorem numR_no2 {lo n hi : Int} (h1 : ¬ n ≤ hi) : inR lo hi n = false := decide_eq_false (fun h => h1 h.2)

set_option maxHeartbeats 4000000 in
set_option maxRecDepth 100000 in
theorem msgright_any {R : Nat → Prop} {m : Msg} {A : Option Addr} {n c : Nat} {w : World} (hl : Ty.At entryK w R A n c m.log) :
    Calls Try.prog 32 #[.agg (msgCells m A n c).toArray] w fun e' w' => e' = .returned (.bool (msgR m)) ∧ Chg (fun _ => False) w w' := by
  show Calls Try.prog _ #[.agg #[.int .i64 m.kind, .int .i64 m.view, .int .i64 m.src, .int .i64 m.dst, .int .i64 m.op, .int .i64 m.commit, .int .i64 m.normal, .slice A n c]] w _
  obtain ⟨w0, hw0⟩ : ∃ w0, w0 = w.alloc (.cells #[.int .i64 m.kind, .int .i64 m.view, .int .i64 m.src, .int .i64 m.dst, .int .i64 m.op, .int .i64 m.commit, .int .i64 m.normal, .slice A n c] 41) := ⟨_, rfl⟩
  have CB := hid (show Chg (fun _ => False) w w0 by rw [hw0]; exact (Chg.refl _ w).alloc _)
  have B1 := hid (show w0.heap[w.heap.size]? = some (.cells #[.int .i64 m.kind, .int .i64 m.view, .int .i64 m.src, .int .i64 m.dst, .int .i64 m.op, .int .i64 m.commit, .int .i64 m.normal, .slice A n c] 41 (0, 0)) by rw [hw0]; exact blk_new w _)
  have HQ := hid (hl.chg CB.out (fun _ _ h => h))
  have L1 := hid hl.1
  have hm1 : (n : Int) ≤ 9223372036854775807 := by have q1 := hl.2.1; have q2 := hl.2.2.1; simp [maxLen] at q2; omega
  clear hl
  by_cases aa : 1 ≤ m.kind
  case neg =>
    have G := hid (show msgR m = false by simp [msgR, numR_no1 (hi := 8) aa])
    go_enter Try.func32, Try.ntmps32
    go_wp2_with fail
    rw [← hw0]
    go_ret
    exact ⟨by rw [G.out]; rfl, CB.out⟩
  by_cases ab : m.kind ≤ 8
  case neg =>
    have G := hid (show msgR m = false by simp [msgR, numR_no2 (lo := 1) ab])
    go_enter Try.func32, Try.ntmps32
    go_wp2_with fail
    rw [← hw0]
    go_ret
    exact ⟨by rw [G.out]; rfl, CB.out⟩
  have Ia := hid (numR_in aa ab)
  go_enter Try.func32, Try.ntmps32
  go_wp2_with fail
  rw [← hw0]
  clear hw0
  have x0 : w0.cell? ⟨w.heap.size, 0, none⟩ = _ := cellAt B1.out 0
  have x1 : w0.cell? ⟨w.heap.size, 1, none⟩ = _ := cellAt B1.out 1
  have x2 : w0.cell? ⟨w.heap.size, 2, none⟩ = _ := cellAt B1.out 2
  have x3 : w0.cell? ⟨w.heap.size, 3, none⟩ = _ := cellAt B1.out 3
  have x4 : w0.cell? ⟨w.heap.size, 4, none⟩ = _ := cellAt B1.out 4
  have x5 : w0.cell? ⟨w.heap.size, 5, none⟩ = _ := cellAt B1.out 5
  have x6 : w0.cell? ⟨w.heap.size, 6, none⟩ = _ := cellAt B1.out 6
  have x7 : w0.cell? ⟨w.heap.size, 7, none⟩ = _ := cellAt B1.out 7
  simp only [List.getElem?_toArray, List.getElem?_cons_zero, List.getElem?_cons_succ] at x0 x1 x2 x3 x4 x5 x6 x7
  refine (number_any m.view 0 _).mono ?_
  rintro e' w1 ⟨rfl, rfl⟩
  cases b : numR 0 m.view
  · have G := hid (show msgR m = false by simp [msgR, b])
    clear b
    go_wp2_with fail
    go_ret
    exact ⟨by rw [G.out]; rfl, CB.out⟩
  have Ib := hid b
  clear b
  go_wp2_with fail
  refine (number_any m.normal 0 _).mono ?_
  rintro e' w1 ⟨rfl, rfl⟩
  cases c' : numR 0 m.normal
  · have G := hid (show msgR m = false by simp [msgR, c'])
    clear c'
    go_wp2_with fail
    go_ret
    exact ⟨by rw [G.out]; rfl, CB.out⟩
  have Ic' := hid c'
  clear c'
  by_cases da : 0 ≤ m.src
  case neg =>
    have G := hid (show msgR m = false by simp [msgR, numR_no1 (hi := 6) da])
    go_wp2_with fail
    go_ret
    exact ⟨by rw [G.out]; rfl, CB.out⟩
  by_cases db : m.src ≤ 6
  case neg =>
    have G := hid (show msgR m = false by simp [msgR, numR_no2 (lo := 0) db])
    go_wp2_with fail
    go_ret
    exact ⟨by rw [G.out]; rfl, CB.out⟩
  have Id := hid (numR_in da db)
  by_cases fa : 0 ≤ m.dst
  case neg =>
    have G := hid (show msgR m = false by simp [msgR, numR_no1 (hi := 6) fa])
    go_wp2_with fail
    go_ret
    exact ⟨by rw [G.out]; rfl, CB.out⟩
  by_cases fb : m.dst ≤ 6
  case neg =>
    have G := hid (show msgR m = false by simp [msgR, numR_no2 (lo := 0) fb])
    go_wp2_with fail
    go_ret
    exact ⟨by rw [G.out]; rfl, CB.out⟩
  have If := hid (numR_in fa fb)
  by_cases ga : 0 ≤ m.op
  case neg =>
    have G := hid (show msgR m = false by simp [msgR, numR_no1 (hi := 64) ga])
    go_wp2_with fail
    go_ret
    exact ⟨by rw [G.out]; rfl, CB.out⟩
  by_cases gb : m.op ≤ 64
  case neg =>
    have G := hid (show msgR m = false by simp [msgR, numR_no2 (lo := 0) gb])
    go_wp2_with fail
    go_ret
    exact ⟨by rw [G.out]; rfl, CB.out⟩
  have Ig := hid (numR_in ga gb)
  by_cases ha : 0 ≤ m.commit
  case neg =>
    have G := hid (show msgR m = false by simp [msgR, numR_no1 (hi := 64) ha])
    go_wp2_with fail
    go_ret
    exact ⟨by rw [G.out]; rfl, CB.out⟩
  by_cases hb : m.commit ≤ 64
  case neg =>
    have G := hid (show msgR m = false by simp [msgR, numR_no2 (lo := 0) hb])
    go_wp2_with fail
    go_ret
    exact ⟨by rw [G.out]; rfl, CB.out⟩
  have Ih := hid (numR_in ha hb)
  have GE := hid (show msgR m = (if m.kind = 1 then logR 1 1 m.log else if m.kind = 5 ∨ m.kind = 6 ∨ m.kind = 8 then logR 0 64 m.log else decide (m.log.length = 0)) by unfold msgR; rw [Ia.out, Ib.out, Ic'.out, Id.out, If.out, Ig.out, Ih.out]; rfl)
  by_cases k1 : m.kind = 1
  · have G := hid (show msgR m = logR 1 1 m.log by rw [GE.out, if_pos k1])
    clear GE
    go_wp2_with fail
    refine (logged_any HQ.out 1 1).mono ?_
    rintro e' w2 ⟨rfl, h2⟩
    have H2 := hid (CB.out.trans h2 (fun _ h _ => h))
    clear h2
    go_wp2_with fail
    go_ret
    exact ⟨by rw [G.out]; rfl, H2.out⟩
  have K1 := hid k1
  by_cases k5 : m.kind = 5
  · have G := hid (show msgR m = logR 0 64 m.log by rw [GE.out, if_neg K1.out, if_pos (by omega)])
    clear GE
    go_wp2_with fail
    refine (logged_any HQ.out 0 64).mono ?_
    rintro e' w2 ⟨rfl, h2⟩
    have H2 := hid (CB.out.trans h2 (fun _ h _ => h))
    clear h2
    go_wp2_with fail
    go_ret
    exact ⟨by rw [G.out]; rfl, H2.out⟩
  by_cases k6 : m.kind = 6
  · have G := hid (show msgR m = logR 0 64 m.log by rw [GE.out, if_neg K1.out, if_pos (by omega)])
    clear GE
    go_wp2_with fail
    refine (logged_any HQ.out 0 64).mono ?_
    rintro e' w2 ⟨rfl, h2⟩
    have H2 := hid (CB.out.trans h2 (fun _ h _ => h))
    clear h2
    go_wp2_with fail
    go_ret
    exact ⟨by rw [G.out]; rfl, H2.out⟩
  by_cases k8 : m.kind = 8
  · have G := hid (show msgR m = logR 0 64 m.log by rw [GE.out, if_neg K1.out, if_pos (by omega)])
    clear GE
    go_wp2_with fail
    refine (logged_any HQ.out 0 64).mono ?_
    rintro e' w2 ⟨rfl, h2⟩
    have H2 := hid (CB.out.trans h2 (fun _ h _ => h))
    clear h2
    go_wp2_with fail
    go_ret
    exact ⟨by rw [G.out]; rfl, H2.out⟩
  have G := hid (show msgR m = decide (m.log.length = 0) by rw [GE.out, if_neg K1.out, if_neg (by omega)])
  clear GE
  by_cases hz : n = 0
  · subst hz
    go_wp2_with fail
    go_ret
    exact ⟨by rw [G.out, decide_eq_true L1.out.symm]; rfl, CB.out⟩
  · have hz2 : ¬ (n : Int) = 0 := by omega
    go_wp2_with fail
    go_ret
    have e0 := decide_eq_false (show ¬ m.log.length = 0 by rw [← L1.out]; exact hz)
    exact ⟨by rw [G.out, e0]; simp [hz], CB.out⟩
end Go.Proofs.Ytaldoajdhbndhaa.Pa


/- The contract of the document's num that writes. -/

namespace Go.Proofs.Ytaldoajdhbndhaa.Pa

set_option linter.unusedVariables false

set_option linter.unusedSimpArgs false

open Go.RowKit Go.Proofs.Ytaldoajdhbndhaa.C

attribute [local go_sem] max2_int min2_int max_two min_two

/-- A slice of one's own that holds the bytes x; its memory lies in S. -/
structure Byt (w : World) (S : Nat → Prop) (v : Value) (x : List UInt8) : Prop where
  row : w.ownsRow 0 5 1 v x.length (u8s x)
  rowS : ∀ k, v.ownBlock = some k → S k
theorem Byt.nil (w : World) (S : Nat → Prop) : Byt w S (.slice none 0 0) [] := ⟨own_nil _ _ _, fun k hk => by simp [Value.ownBlock] at hk⟩
theorem Byt.chg {w w' : World} {S M : Nat → Prop} {v : Value} {x : List UInt8} (h : Byt w S v x) (hc : Chg M w w') (hd : ∀ k, S k → ¬ M k) : Byt w' S v x := ⟨hc.own h.row (fun k hk => hd k (h.rowS k hk)), h.rowS⟩
theorem Byt.mono {w : World} {S S' : Nat → Prop} {v : Value} {x : List UInt8} (h : Byt w S v x) (hS : ∀ k, k < w.heap.size → S k → S' k) : Byt w S' v x := ⟨h.row, fun k hk => hS k (own_lt h.row k hk) (h.rowS k hk)⟩
theorem Byt.bound {w : World} {S : Nat → Prop} {v : Value} {x : List UInt8} (h : Byt w S v x) : Byt w (fun k => S k ∧ k < w.heap.size) v x := h.mono (fun _ hl h => ⟨h, hl⟩)
theorem Byt.form {w : World} {S : Nat → Prop} {v : Value} {x : List UInt8} (h : Byt w S v x) : ∃ A c, v = .slice A x.length c := by
  obtain ⟨A, c, hv, _⟩ := own_sees h.row
  exact ⟨A, c, hv⟩
/-- More was written. -/
structure ByTo (S : Nat → Prop) (x : List UInt8) (w w' : World) (v : Value) : Prop where
  byt : Byt w' (fun k => S k ∨ w.heap.size ≤ k) v x
  chg : Chg S w w'
theorem ByTo.refl {S : Nat → Prop} {x : List UInt8} {w : World} {v : Value} (h : Byt w S v x) : ByTo S x w w v := ⟨h.mono (fun _ _ h => .inl h), Chg.refl _ _⟩
theorem ByTo.trans {S : Nat → Prop} {x y : List UInt8} {w w1 w2 : World} {v v' : Value} (h : ByTo S x w w1 v) (k : ByTo (fun k => S k ∨ w.heap.size ≤ k) y w1 w2 v') : ByTo S y w w2 v' := by
  refine ⟨k.byt.mono (fun j _ hj => ?_), h.chg.trans k.chg (fun j hj hlt => ?_)⟩
  · rcases hj with (hj | hj) | hj
    · exact .inl hj
    · exact .inr hj
    · exact .inr (Nat.le_trans h.chg.size hj)
  · rcases hj with hj | hj
    · exact hj
    · omega
theorem ByTo.pre {S S0 : Nat → Prop} {y : List UInt8} {w w1 w2 : World} {v : Value} (h : Chg (fun _ => False) w w1) (k : ByTo S0 y w1 w2 v) (hS : ∀ k, S0 k → S k ∨ w.heap.size ≤ k) : ByTo S y w w2 v := by
  refine ⟨k.byt.mono (fun j _ hj => ?_), (h.mono (fun _ h _ => h.elim)).trans k.chg (fun j hj hlt => ?_)⟩
  · rcases hj with hj | hj
    · exact hS j hj
    · exact .inr (Nat.le_trans h.size hj)
  · rcases hS j hj with hj | hj
    · exact hj
    · omega
theorem ByTo.drewN {S : Nat → Prop} {y : List UInt8} {w w' : World} {v : Value} (h : ByTo S y w w' v) (q : Nat) : ByTo S y w (w'.drewN q) v := ⟨h.byt.chg ((Chg.refl (fun _ => False) w').drewN q) (fun _ _ h => h), h.chg.drewN q⟩
theorem ByTo.drew {S : Nat → Prop} {y : List UInt8} {w w' : World} {v : Value} (h : ByTo S y w w' v) : ByTo S y w w'.drew v := ⟨h.byt.chg ((Chg.refl (fun _ => False) w').drew) (fun _ _ h => h), h.chg.drew⟩

end Go.Proofs.Ytaldoajdhbndhaa.Pa


/- The contracts of slices.Equal at rules and numbers. -/

namespace Go.Proofs.Ytaldoajdhbndhaa.Pa

set_option linter.unusedVariables false

set_option linter.unusedSimpArgs false

open Go.RowKit Go.Proofs.Ytaldoajdhbndhaa.C

attribute [local go_sem] max2_int min2_int max_two min_two

theorem bytes_eq {s t : ByteArray} : s.toList = t.toList ↔ s = t := by
  constructor
  · intro h
    rw [ByteArray.toList_eq, ByteArray.toList_eq] at h
    cases s
    cases t
    simp only [Array.toList_inj] at h
    rw [h]
  · rintro rfl
    rfl
theorem rule_ext {x y : Rule} : x = y ↔ x.id = y.id ∧ x.pri = y.pri ∧ x.act = y.act ∧ x.scope = y.scope ∧ x.pat = y.pat := by
  cases x
  cases y
  simp
theorem rule_neq (x y : Rule) (w : World) : (binOp .neq 104 (.agg #[.int .i64 x.id, .int .i64 x.pri, .int .i64 x.act, .int .i64 x.scope, .string x.pat]) (.agg #[.int .i64 y.id, .int .i64 y.pri, .int .i64 y.act, .int .i64 y.scope, .string y.pat])).run Try.prog w = .ok (.bool (!(decide (x = y)))) w := by
  simp [go_sem, rule_ext, bytes_eq]
  by_cases h1 : x.id = y.id <;> by_cases h2 : x.pri = y.pri <;> by_cases h3 : x.act = y.act <;> by_cases h4 : x.scope = y.scope <;> by_cases h5 : x.pat = y.pat <;> simp [h1, h2, h3, h4, h5]
set_option maxHeartbeats 4000000 in
set_option maxRecDepth 100000 in
theorem ruleseq_any {R R' : Nat → Prop} {xs ys : List (Rule)} {A A' : Option Addr} {n c n' c' : Nat} {w : World} (h : Ty.At ruleK w R A n c xs) (h' : Ty.At ruleK w R' A' n' c' ys) :
    Calls Try.prog 102 #[.slice A n c, .slice A' n' c'] w fun e w' => e = .returned (.bool (decide (xs = ys))) ∧ Chg (fun _ => False) w w' := by
  have HX := hid h
  have HY := hid h'
  have LX := hid h.1
  have LY := hid h'.1
  have hn : (n : Int) ≤ 9223372036854775807 := by have q1 := h.2.1; have q2 := h.2.2.1; simp [maxLen] at q2; omega
  clear h h'
  by_cases hnm : n = n'
  case neg =>
    have HN := hid (show ¬ xs = ys from fun e => hnm (by rw [LX.out, LY.out, e]))
    have hnm2 : ¬ (n : Int) = (n' : Int) := by omega
    clear hnm
    go_enter Try.func102, Try.ntmps102
    go_wp2_with fail
    go_ret
    exact ⟨by rw [decide_eq_false HN.out]; rfl, Chg.refl _ _⟩
  subst hnm
  go_enter Try.func102, Try.ntmps102
  go_wp2_with fail
  go_loopw [13] (fun i wr => ∃ k : Nat, k ≤ n ∧ i = .int .i64 k ∧ xs.take k = ys.take k ∧ Chg (fun _ => False) w wr) (fun i _ => n - (intOf i).toNat)
  case atStart => exact ⟨0, Nat.zero_le _, rfl, rfl, Chg.refl _ _⟩
  case round =>
    obtain ⟨k, hk, rfl, he, hC⟩ := hrel
    have HE := hid he
    have HC := hid hC
    clear he
    by_cases hlt : k < n
    · obtain ⟨x, hx⟩ : ∃ x, xs[k]? = some x := ⟨_, List.getElem?_eq_getElem (by have := LX.out; omega)⟩
      obtain ⟨y, hy⟩ : ∃ y, ys[k]? = some y := ⟨_, List.getElem?_eq_getElem (by have := LY.out; omega)⟩
      obtain ⟨a, cs, ha, haR, hK, hcs⟩ := HX.out.get (by decide) hx
      obtain ⟨b, ds, hb, hbR, hK', hds⟩ := HY.out.get (by decide) hy
      obtain ⟨rfl, hrw⟩ := rule_open hK
      obtain ⟨rfl, hrw'⟩ := rule_open hK'
      clear hrw hrw'
      subst ha hb
      have hcs2 : ∀ j u, (ruleCells x)[j]? = some u → wr.cell? (a.add (k * 5 + j)) = some u := fun j u hj => hC.cell (hcs j u hj) (fun h => h)
      have hds2 : ∀ j u, (ruleCells y)[j]? = some u → wr.cell? (b.add (k * 5 + j)) = some u := fun j u hj => hC.cell (hds j u hj) (fun h => h)
      have x0 := elem_cell0 hcs2 _ rfl
      have y0 := elem_cell0 hds2 _ rfl
      have x1 := elem_cell hcs2 0 _ rfl
      have y1 := elem_cell hds2 0 _ rfl
      have x2 := elem_cell hcs2 1 _ rfl
      have y2 := elem_cell hds2 1 _ rfl
      have x3 := elem_cell hcs2 2 _ rfl
      have y3 := elem_cell hds2 2 _ rfl
      have x4 := elem_cell hcs2 3 _ rfl
      have y4 := elem_cell hds2 3 _ rfl
      have TX := hid (show xs.take (k + 1) = xs.take k ++ [x] by rw [List.take_add_one, hx]; rfl)
      have TY := hid (show ys.take (k + 1) = ys.take k ++ [y] by rw [List.take_add_one, hy]; rfl)
      have NE := hid (show x ≠ y → xs ≠ ys from fun h e => h (by subst e; rw [hx] at hy; injection hy))
      have e1 := fun w => rule_neq x y w
      clear hcs hds hK hK' hcs2 hds2 hx hy haR hbR hC
      have hlt2 : (k : Int) < (n : Int) := by omega
      go_wp2_with fail
      go_quiet (fail)
      clear x0 y0 x1 x2 x3 x4 y1 y2 y3 y4 e1
      by_cases hxy : x = y
      · have HN := hid (show xs.take (k + 1) = ys.take (k + 1) by rw [TX.out, TY.out, HE.out, hxy])
        have C2 := hid (HC.out.drewN nq)
        have HD := hid (trivial)
        rw [decide_eq_true hxy]
        clear hxy
        go_wp2_with fail
        go_roundw
        case measure => simp [intOf]; omega
        case rel => first | exact ⟨k + 1, hlt, by go_num, HN.out, C2.out⟩ | ((repeat apply Exists.intro); exact ⟨⟨k + 1, hlt, by go_num, HN.out, C2.out⟩, rfl⟩)
      · have HN := hid (NE.out hxy)
        have C2 := hid (HC.out.drewN nq)
        rw [decide_eq_false hxy]
        clear hxy
        go_wp2_with fail
        go_ret
        exact ⟨by rw [decide_eq_false HN.out]; rfl, C2.out⟩
    · have hkn : ¬ (k : Int) < (n : Int) := by omega
      clear hC
      go_wp2_with fail
      go_ret
      have e := HE.out
      rw [List.take_of_length_le (by have := LX.out; omega), List.take_of_length_le (by have := LY.out; omega)] at e
      exact ⟨by rw [decide_eq_true e]; rfl, HC.out⟩

set_option maxHeartbeats 4000000 in
set_option maxRecDepth 100000 in
theorem numseq_any {R R' : Nat → Prop} {xs ys : List (Int)} {A A' : Option Addr} {n c n' c' : Nat} {w : World} (h : Ty.At (Ty.int .i64) w R A n c xs) (h' : Ty.At (Ty.int .i64) w R' A' n' c' ys) :
    Calls Try.prog 103 #[.slice A n c, .slice A' n' c'] w fun e w' => e = .returned (.bool (decide (xs = ys))) ∧ Chg (fun _ => False) w w' := by
  have HX := hid h
  have HY := hid h'
  have LX := hid h.1
  have LY := hid h'.1
  have hn : (n : Int) ≤ 9223372036854775807 := by have q1 := h.2.1; have q2 := h.2.2.1; simp [maxLen] at q2; omega
  clear h h'
  by_cases hnm : n = n'
  case neg =>
    have HN := hid (show ¬ xs = ys from fun e => hnm (by rw [LX.out, LY.out, e]))
    have hnm2 : ¬ (n : Int) = (n' : Int) := by omega
    clear hnm
    go_enter Try.func103, Try.ntmps103
    go_wp2_with fail
    go_ret
    exact ⟨by rw [decide_eq_false HN.out]; rfl, Chg.refl _ _⟩
  subst hnm
  go_enter Try.func103, Try.ntmps103
  go_wp2_with fail
  go_loopw [13] (fun i wr => ∃ k : Nat, k ≤ n ∧ i = .int .i64 k ∧ xs.take k = ys.take k ∧ Chg (fun _ => False) w wr) (fun i _ => n - (intOf i).toNat)
  case atStart => exact ⟨0, Nat.zero_le _, rfl, rfl, Chg.refl _ _⟩
  case round =>
    obtain ⟨k, hk, rfl, he, hC⟩ := hrel
    have HE := hid he
    have HC := hid hC
    clear he
    by_cases hlt : k < n
    · obtain ⟨x, hx⟩ : ∃ x, xs[k]? = some x := ⟨_, List.getElem?_eq_getElem (by have := LX.out; omega)⟩
      obtain ⟨y, hy⟩ : ∃ y, ys[k]? = some y := ⟨_, List.getElem?_eq_getElem (by have := LY.out; omega)⟩
      obtain ⟨a, cs, ha, haR, hK, hcs⟩ := HX.out.get (by decide) hx
      obtain ⟨b, ds, hb, hbR, hK', hds⟩ := HY.out.get (by decide) hy
      obtain ⟨rfl, hrw⟩ := (id hK)
      obtain ⟨rfl, hrw'⟩ := (id hK')
      clear hrw hrw'
      subst ha hb
      have hcs2 : ∀ j u, ([Value.int .i64 x])[j]? = some u → wr.cell? (a.add (k * 1 + j)) = some u := fun j u hj => hC.cell (hcs j u hj) (fun h => h)
      have hds2 : ∀ j u, ([Value.int .i64 y])[j]? = some u → wr.cell? (b.add (k * 1 + j)) = some u := fun j u hj => hC.cell (hds j u hj) (fun h => h)
      have x0 := elem_cell0 hcs2 _ rfl
      have y0 := elem_cell0 hds2 _ rfl
      rw [Nat.mul_one] at x0 y0
      have TX := hid (show xs.take (k + 1) = xs.take k ++ [x] by rw [List.take_add_one, hx]; rfl)
      have TY := hid (show ys.take (k + 1) = ys.take k ++ [y] by rw [List.take_add_one, hy]; rfl)
      have NE := hid (show x ≠ y → xs ≠ ys from fun h e => h (by subst e; rw [hx] at hy; injection hy))

      clear hcs hds hK hK' hcs2 hds2 hx hy haR hbR hC
      have hlt2 : (k : Int) < (n : Int) := by omega
      go_wp2_with fail
      go_quiet (fail)
      clear x0 y0
      by_cases hxy : x = y
      · have HN := hid (show xs.take (k + 1) = ys.take (k + 1) by rw [TX.out, TY.out, HE.out, hxy])
        have C2 := hid (HC.out.drewN nq)
        have HD := hid (trivial)
        obtain rfl := hxy; have hxy := trivial; have hb : (x != x) = false := by simp
        clear hxy
        go_wp2_with fail
        go_roundw
        case measure => simp [intOf]; omega
        case rel => first | exact ⟨k + 1, hlt, by go_num, HN.out, C2.out⟩ | ((repeat apply Exists.intro); exact ⟨⟨k + 1, hlt, by go_num, HN.out, C2.out⟩, rfl⟩)
      · have HN := hid (NE.out hxy)
        have C2 := hid (HC.out.drewN nq)
        have hb : (x != y) = true := by simpa using hxy
        clear hxy
        go_wp2_with fail
        go_ret
        exact ⟨by rw [decide_eq_false HN.out]; rfl, C2.out⟩
    · have hkn : ¬ (k : Int) < (n : Int) := by omega
      clear hC
      go_wp2_with fail
      go_ret
      have e := HE.out
      rw [List.take_of_length_le (by have := LX.out; omega), List.take_of_length_le (by have := LY.out; omega)] at e
      exact ⟨by rw [decide_eq_true e]; rfl, HC.out⟩
end Go.Proofs.Ytaldoajdhbndhaa.Pa


/- The contracts of the program's same and Same. -/

namespace Go.Proofs.Ytaldoajdhbndhaa.Pa

set_option linter.unusedVariables false

set_option linter.unusedSimpArgs false

open Go.RowKit Go.Proofs.Ytaldoajdhbndhaa.C

attribute [local go_sem] max2_int min2_int max_two min_two

theorem entry_ext {x y : Entry} : x = y ↔ x.view = y.view ∧ x.client = y.client ∧ x.request = y.request ∧ x.dflt = y.dflt ∧ x.closed = y.closed ∧ x.fuel = y.fuel ∧ x.stack = y.stack ∧ x.put = y.put ∧ x.drop = y.drop := by
  cases x
  cases y
  simp
theorem four_blk (w : World) (a b c d : Obj) : (((((w.alloc a).alloc b).alloc c).alloc d).drew.heap[w.heap.size]? = some a ∧ ((((w.alloc a).alloc b).alloc c).alloc d).drew.heap[w.heap.size + 1]? = some b ∧ ((((w.alloc a).alloc b).alloc c).alloc d).drew.heap[w.heap.size + 1 + 1]? = some c ∧ ((((w.alloc a).alloc b).alloc c).alloc d).drew.heap[w.heap.size + 1 + 1 + 1]? = some d) := by
  have h1 := blk_new w a
  have h2 := blk_new (w.alloc a) b
  have h3 := blk_new ((w.alloc a).alloc b) c
  have h4 := blk_new (((w.alloc a).alloc b).alloc c) d
  have s1 : (w.alloc a).heap.size = w.heap.size + 1 := by simp
  have s2 : ((w.alloc a).alloc b).heap.size = w.heap.size + 1 + 1 := by simp
  have s3 : (((w.alloc a).alloc b).alloc c).heap.size = w.heap.size + 1 + 1 + 1 := by simp
  rw [s1] at h2
  rw [s2] at h3
  rw [s3] at h4
  exact ⟨blk_alloc (blk_alloc (blk_alloc h1 _) _) _, blk_alloc (blk_alloc h2 _) _, blk_alloc h3 _, h4⟩
set_option maxHeartbeats 4000000 in
set_option maxRecDepth 100000 in
theorem same_any {R R' : Nat → Prop} {e d : Entry} {A1 : Option Addr} {n1 c1 : Nat} {A2 : Option Addr} {n2 c2 : Nat} {B1 : Option Addr} {m1 d1 : Nat} {B2 : Option Addr} {m2 d2 : Nat} {w : World} (he : EntryAt w R e A1 n1 c1 A2 n2 c2) (hd : EntryAt w R' d B1 m1 d1 B2 m2 d2) :
    Calls Try.prog 73 #[.agg (entryCells e A1 n1 c1 A2 n2 c2).toArray, .agg (entryCells d B1 m1 d1 B2 m2 d2).toArray] w fun e' w' => e' = .returned (.bool (decide (e = d))) ∧ Chg (fun _ => False) w w' := by
  show Calls Try.prog _ #[.agg #[.int .i64 e.view, .int .i64 e.client, .int .i64 e.request, .int .i64 e.dflt, .int .i64 e.closed, .int .i64 e.fuel, .int .i64 e.stack, .slice A1 n1 c1, .slice A2 n2 c2], .agg #[.int .i64 d.view, .int .i64 d.client, .int .i64 d.request, .int .i64 d.dflt, .int .i64 d.closed, .int .i64 d.fuel, .int .i64 d.stack, .slice B1 m1 d1, .slice B2 m2 d2]] w _
  have HE := hid he
  have HD := hid hd
  clear he hd
  go_enter Try.func73, Try.ntmps73
  go_wp2_with fail
  go_region
  · obtain ⟨W, hW⟩ : ∃ W, W = ((((w.alloc (.cells #[.int .i64 e.view, .int .i64 e.client, .int .i64 e.request, .int .i64 e.dflt, .int .i64 e.closed, .int .i64 e.fuel, .int .i64 e.stack, .slice A1 n1 c1, .slice A2 n2 c2] 56)).alloc (.cells #[.int .i64 d.view, .int .i64 d.client, .int .i64 d.request, .int .i64 d.dflt, .int .i64 d.closed, .int .i64 d.fuel, .int .i64 d.stack, .slice B1 m1 d1, .slice B2 m2 d2] 56)).alloc (.cells #[.int .i64 e.dflt, .int .i64 e.closed, .int .i64 e.fuel, .int .i64 e.stack, .slice A1 n1 c1, .slice A2 n2 c2] 54)).alloc (.cells #[.int .i64 d.dflt, .int .i64 d.closed, .int .i64 d.fuel, .int .i64 d.stack, .slice B1 m1 d1, .slice B2 m2 d2] 54)).drew := ⟨_, rfl⟩
    have CB := hid (show Chg (fun _ => False) w W by rw [hW]; exact (((((Chg.refl (fun _ => False) w).alloc _).alloc _).alloc _).alloc _).drew)
    obtain ⟨k1, k2, k3, k4⟩ := four_blk w (.cells #[.int .i64 e.view, .int .i64 e.client, .int .i64 e.request, .int .i64 e.dflt, .int .i64 e.closed, .int .i64 e.fuel, .int .i64 e.stack, .slice A1 n1 c1, .slice A2 n2 c2] 56) (.cells #[.int .i64 d.view, .int .i64 d.client, .int .i64 d.request, .int .i64 d.dflt, .int .i64 d.closed, .int .i64 d.fuel, .int .i64 d.stack, .slice B1 m1 d1, .slice B2 m2 d2] 56) (.cells #[.int .i64 e.dflt, .int .i64 e.closed, .int .i64 e.fuel, .int .i64 e.stack, .slice A1 n1 c1, .slice A2 n2 c2] 54) (.cells #[.int .i64 d.dflt, .int .i64 d.closed, .int .i64 d.fuel, .int .i64 d.stack, .slice B1 m1 d1, .slice B2 m2 d2] 54)
    rw [← hW] at k1 k2 k3 k4 ⊢
    clear hW
    have x0 : W.cell? ⟨w.heap.size, 0, none⟩ = _ := cellAt k1 0
    have y0 : W.cell? ⟨w.heap.size + 1, 0, none⟩ = _ := cellAt k2 0
    have x1 : W.cell? ⟨w.heap.size, 1, none⟩ = _ := cellAt k1 1
    have y1 : W.cell? ⟨w.heap.size + 1, 1, none⟩ = _ := cellAt k2 1
    have x2 : W.cell? ⟨w.heap.size, 2, none⟩ = _ := cellAt k1 2
    have y2 : W.cell? ⟨w.heap.size + 1, 2, none⟩ = _ := cellAt k2 2
    have u0 : W.cell? ⟨w.heap.size + 1 + 1, 0, none⟩ = _ := cellAt k3 0
    have v0 : W.cell? ⟨w.heap.size + 1 + 1 + 1, 0, none⟩ = _ := cellAt k4 0
    have u1 : W.cell? ⟨w.heap.size + 1 + 1, 1, none⟩ = _ := cellAt k3 1
    have v1 : W.cell? ⟨w.heap.size + 1 + 1 + 1, 1, none⟩ = _ := cellAt k4 1
    have u2 : W.cell? ⟨w.heap.size + 1 + 1, 2, none⟩ = _ := cellAt k3 2
    have v2 : W.cell? ⟨w.heap.size + 1 + 1 + 1, 2, none⟩ = _ := cellAt k4 2
    have u3 : W.cell? ⟨w.heap.size + 1 + 1, 3, none⟩ = _ := cellAt k3 3
    have v3 : W.cell? ⟨w.heap.size + 1 + 1 + 1, 3, none⟩ = _ := cellAt k4 3
    have u4 : W.cell? ⟨w.heap.size + 1 + 1, 4, none⟩ = _ := cellAt k3 4
    have v4 : W.cell? ⟨w.heap.size + 1 + 1 + 1, 4, none⟩ = _ := cellAt k4 4
    have u5 : W.cell? ⟨w.heap.size + 1 + 1, 5, none⟩ = _ := cellAt k3 5
    have v5 : W.cell? ⟨w.heap.size + 1 + 1 + 1, 5, none⟩ = _ := cellAt k4 5
    simp only [List.getElem?_toArray, List.getElem?_cons_zero, List.getElem?_cons_succ] at x0 y0 x1 y1 x2 y2 u0 v0 u1 v1 u2 v2 u3 v3 u4 v4 u5 v5
    clear k1 k2 k3 k4
    cases g0 : (e.view == d.view)
    · have G := hid (show ¬ e = d from fun h => by rw [h] at g0; simp at g0)
      go_wp2_with fail
      go_ret
      exact ⟨by rw [decide_eq_false G.out]; rfl, CB.out⟩
    cases g1 : (e.client == d.client)
    · have G := hid (show ¬ e = d from fun h => by rw [h] at g1; simp at g1)
      go_wp2_with fail
      go_ret
      exact ⟨by rw [decide_eq_false G.out]; rfl, CB.out⟩
    cases g2 : (e.request == d.request)
    · have G := hid (show ¬ e = d from fun h => by rw [h] at g2; simp at g2)
      go_wp2_with fail
      go_ret
      exact ⟨by rw [decide_eq_false G.out]; rfl, CB.out⟩
    cases g3 : (e.dflt == d.dflt)
    · have G := hid (show ¬ e = d from fun h => by rw [h] at g3; simp at g3)
      go_wp2_with fail
      go_ret
      exact ⟨by rw [decide_eq_false G.out]; rfl, CB.out⟩
    cases g4 : (e.closed == d.closed)
    · have G := hid (show ¬ e = d from fun h => by rw [h] at g4; simp at g4)
      go_wp2_with fail
      go_ret
      exact ⟨by rw [decide_eq_false G.out]; rfl, CB.out⟩
    cases g5 : (e.fuel == d.fuel)
    · have G := hid (show ¬ e = d from fun h => by rw [h] at g5; simp at g5)
      go_wp2_with fail
      go_ret
      exact ⟨by rw [decide_eq_false G.out]; rfl, CB.out⟩
    cases g6 : (e.stack == d.stack)
    · have G := hid (show ¬ e = d from fun h => by rw [h] at g6; simp at g6)
      go_wp2_with fail
      go_ret
      exact ⟨by rw [decide_eq_false G.out]; rfl, CB.out⟩
    have GN := hid (show e = d ↔ e.put = d.put ∧ e.drop = d.drop from by
      rw [entry_ext]
      simp at g0 g1 g2 g3 g4 g5 g6
      simp [g0, g1, g2, g3, g4, g5, g6])
    have U5 := hid u5
    have V5 := hid v5
    go_wp2_with fail
    clear x0 y0 x1 y1 x2 y2 u0 v0 u1 v1 u2 v2 u3 v3 u4 v4 u5 v5 g0 g1 g2 g3 g4 g5 g6
    refine (ruleseq_any (HE.out.2.1.chg CB.out (fun _ _ h => h)) (HD.out.2.1.chg CB.out (fun _ _ h => h))).mono ?_
    rintro e' w2 ⟨rfl, h2⟩
    have C2 := hid (CB.out.trans h2 (fun _ h _ => h))
    have z5 := h2.cell U5.out (fun h => h)
    have t5 := h2.cell V5.out (fun h => h)
    clear h2
    cases g7 : decide (e.put = d.put)
    · have G := hid (show ¬ e = d from fun h => of_decide_eq_false g7 (GN.out.1 h).1)
      clear g7
      go_wp2_with fail
      go_ret
      exact ⟨by rw [decide_eq_false G.out]; rfl, C2.out⟩
    have G7 := hid (of_decide_eq_true g7)
    clear g7
    go_wp2_with fail
    refine (numseq_any (HE.out.2.2.chg C2.out (fun _ _ h => h)) (HD.out.2.2.chg C2.out (fun _ _ h => h))).mono ?_
    rintro e' w3 ⟨rfl, h3⟩
    have C3 := hid (C2.out.trans h3 (fun _ h _ => h))
    have GE := hid (show decide (e = d) = decide (e.drop = d.drop) from by
      rw [decide_eq_decide]
      exact ⟨fun h => (GN.out.1 h).2, fun h => GN.out.2 ⟨G7.out, h⟩⟩)
    clear h3 z5 t5
    go_wp2_with fail
    go_ret
    exact ⟨by rw [GE.out]; rfl, C3.out⟩
  · obtain ⟨W, hW⟩ : ∃ W, W = ((((w.alloc (.cells #[.int .i64 e.view, .int .i64 e.client, .int .i64 e.request, .int .i64 e.dflt, .int .i64 e.closed, .int .i64 e.fuel, .int .i64 e.stack, .slice A1 n1 c1, .slice A2 n2 c2] 56)).alloc (.cells #[.int .i64 d.view, .int .i64 d.client, .int .i64 d.request, .int .i64 d.dflt, .int .i64 d.closed, .int .i64 d.fuel, .int .i64 d.stack, .slice B1 m1 d1, .slice B2 m2 d2] 56)).alloc (.cells #[.int .i64 d.dflt, .int .i64 d.closed, .int .i64 d.fuel, .int .i64 d.stack, .slice B1 m1 d1, .slice B2 m2 d2] 54)).alloc (.cells #[.int .i64 e.dflt, .int .i64 e.closed, .int .i64 e.fuel, .int .i64 e.stack, .slice A1 n1 c1, .slice A2 n2 c2] 54)).drew := ⟨_, rfl⟩
    have CB := hid (show Chg (fun _ => False) w W by rw [hW]; exact (((((Chg.refl (fun _ => False) w).alloc _).alloc _).alloc _).alloc _).drew)
    obtain ⟨k1, k2, k3, k4⟩ := four_blk w (.cells #[.int .i64 e.view, .int .i64 e.client, .int .i64 e.request, .int .i64 e.dflt, .int .i64 e.closed, .int .i64 e.fuel, .int .i64 e.stack, .slice A1 n1 c1, .slice A2 n2 c2] 56) (.cells #[.int .i64 d.view, .int .i64 d.client, .int .i64 d.request, .int .i64 d.dflt, .int .i64 d.closed, .int .i64 d.fuel, .int .i64 d.stack, .slice B1 m1 d1, .slice B2 m2 d2] 56) (.cells #[.int .i64 d.dflt, .int .i64 d.closed, .int .i64 d.fuel, .int .i64 d.stack, .slice B1 m1 d1, .slice B2 m2 d2] 54) (.cells #[.int .i64 e.dflt, .int .i64 e.closed, .int .i64 e.fuel, .int .i64 e.stack, .slice A1 n1 c1, .slice A2 n2 c2] 54)
    rw [← hW] at k1 k2 k3 k4 ⊢
    clear hW
    have x0 : W.cell? ⟨w.heap.size, 0, none⟩ = _ := cellAt k1 0
    have y0 : W.cell? ⟨w.heap.size + 1, 0, none⟩ = _ := cellAt k2 0
    have x1 : W.cell? ⟨w.heap.size, 1, none⟩ = _ := cellAt k1 1
    have y1 : W.cell? ⟨w.heap.size + 1, 1, none⟩ = _ := cellAt k2 1
    have x2 : W.cell? ⟨w.heap.size, 2, none⟩ = _ := cellAt k1 2
    have y2 : W.cell? ⟨w.heap.size + 1, 2, none⟩ = _ := cellAt k2 2
    have u0 : W.cell? ⟨w.heap.size + 1 + 1 + 1, 0, none⟩ = _ := cellAt k4 0
    have v0 : W.cell? ⟨w.heap.size + 1 + 1, 0, none⟩ = _ := cellAt k3 0
    have u1 : W.cell? ⟨w.heap.size + 1 + 1 + 1, 1, none⟩ = _ := cellAt k4 1
    have v1 : W.cell? ⟨w.heap.size + 1 + 1, 1, none⟩ = _ := cellAt k3 1
    have u2 : W.cell? ⟨w.heap.size + 1 + 1 + 1, 2, none⟩ = _ := cellAt k4 2
    have v2 : W.cell? ⟨w.heap.size + 1 + 1, 2, none⟩ = _ := cellAt k3 2
    have u3 : W.cell? ⟨w.heap.size + 1 + 1 + 1, 3, none⟩ = _ := cellAt k4 3
    have v3 : W.cell? ⟨w.heap.size + 1 + 1, 3, none⟩ = _ := cellAt k3 3
    have u4 : W.cell? ⟨w.heap.size + 1 + 1 + 1, 4, none⟩ = _ := cellAt k4 4
    have v4 : W.cell? ⟨w.heap.size + 1 + 1, 4, none⟩ = _ := cellAt k3 4
    have u5 : W.cell? ⟨w.heap.size + 1 + 1 + 1, 5, none⟩ = _ := cellAt k4 5
    have v5 : W.cell? ⟨w.heap.size + 1 + 1, 5, none⟩ = _ := cellAt k3 5
    simp only [List.getElem?_toArray, List.getElem?_cons_zero, List.getElem?_cons_succ] at x0 y0 x1 y1 x2 y2 u0 v0 u1 v1 u2 v2 u3 v3 u4 v4 u5 v5
    clear k1 k2 k3 k4
    cases g0 : (e.view == d.view)
    · have G := hid (show ¬ e = d from fun h => by rw [h] at g0; simp at g0)
      go_wp2_with fail
      go_ret
      exact ⟨by rw [decide_eq_false G.out]; rfl, CB.out⟩
    cases g1 : (e.client == d.client)
    · have G := hid (show ¬ e = d from fun h => by rw [h] at g1; simp at g1)
      go_wp2_with fail
      go_ret
      exact ⟨by rw [decide_eq_false G.out]; rfl, CB.out⟩
    cases g2 : (e.request == d.request)
    · have G := hid (show ¬ e = d from fun h => by rw [h] at g2; simp at g2)
      go_wp2_with fail
      go_ret
      exact ⟨by rw [decide_eq_false G.out]; rfl, CB.out⟩
    cases g3 : (e.dflt == d.dflt)
    · have G := hid (show ¬ e = d from fun h => by rw [h] at g3; simp at g3)
      go_wp2_with fail
      go_ret
      exact ⟨by rw [decide_eq_false G.out]; rfl, CB.out⟩
    cases g4 : (e.closed == d.closed)
    · have G := hid (show ¬ e = d from fun h => by rw [h] at g4; simp at g4)
      go_wp2_with fail
      go_ret
      exact ⟨by rw [decide_eq_false G.out]; rfl, CB.out⟩
    cases g5 : (e.fuel == d.fuel)
    · have G := hid (show ¬ e = d from fun h => by rw [h] at g5; simp at g5)
      go_wp2_with fail
      go_ret
      exact ⟨by rw [decide_eq_false G.out]; rfl, CB.out⟩
    cases g6 : (e.stack == d.stack)
    · have G := hid (show ¬ e = d from fun h => by rw [h] at g6; simp at g6)
      go_wp2_with fail
      go_ret
      exact ⟨by rw [decide_eq_false G.out]; rfl, CB.out⟩
    have GN := hid (show e = d ↔ e.put = d.put ∧ e.drop = d.drop from by
      rw [entry_ext]
      simp at g0 g1 g2 g3 g4 g5 g6
      simp [g0, g1, g2, g3, g4, g5, g6])
    have U5 := hid u5
    have V5 := hid v5
    go_wp2_with fail
    clear x0 y0 x1 y1 x2 y2 u0 v0 u1 v1 u2 v2 u3 v3 u4 v4 u5 v5 g0 g1 g2 g3 g4 g5 g6
    refine (ruleseq_any (HE.out.2.1.chg CB.out (fun _ _ h => h)) (HD.out.2.1.chg CB.out (fun _ _ h => h))).mono ?_
    rintro e' w2 ⟨rfl, h2⟩
    have C2 := hid (CB.out.trans h2 (fun _ h _ => h))
    have z5 := h2.cell U5.out (fun h => h)
    have t5 := h2.cell V5.out (fun h => h)
    clear h2
    cases g7 : decide (e.put = d.put)
    · have G := hid (show ¬ e = d from fun h => of_decide_eq_false g7 (GN.out.1 h).1)
      clear g7
      go_wp2_with fail
      go_ret
      exact ⟨by rw [decide_eq_false G.out]; rfl, C2.out⟩
    have G7 := hid (of_decide_eq_true g7)
    clear g7
    go_wp2_with fail
    refine (numseq_any (HE.out.2.2.chg C2.out (fun _ _ h => h)) (HD.out.2.2.chg C2.out (fun _ _ h => h))).mono ?_
    rintro e' w3 ⟨rfl, h3⟩
    have C3 := hid (C2.out.trans h3 (fun _ h _ => h))
    have GE := hid (show decide (e = d) = decide (e.drop = d.drop) from by
      rw [decide_eq_decide]
      exact ⟨fun h => (GN.out.1 h).2, fun h => GN.out.2 ⟨G7.out, h⟩⟩)
    clear h3 z5 t5
    go_wp2_with fail
    go_ret
    exact ⟨by rw [GE.out]; rfl, C3.out⟩
end Go.Proofs.Ytaldoajdhbndhaa.Pa


/- The contracts of slices.EqualFunc at entries, and of the program's Same. -/

namespace Go.Proofs.Ytaldoajdhbndhaa.Pa

set_option linter.unusedVariables false

set_option linter.unusedSimpArgs false

open Go.RowKit Go.Proofs.Ytaldoajdhbndhaa.C

attribute [local go_sem] max2_int min2_int max_two min_two

set_option maxHeartbeats 4000000 in
set_option maxRecDepth 100000 in
theorem equalfunc_any {R R' : Nat → Prop} {xs ys : List Entry} {A A' : Option Addr} {n c n' c' : Nat} {w : World} (h : Ty.At entryK w R A n c xs) (h' : Ty.At entryK w R' A' n' c' ys) :
    Calls Try.prog 72 #[.slice A n c, .slice A' n' c', .func (.func 73) #[] #[]] w fun e w' => e = .returned (.bool (decide (xs = ys))) ∧ Chg (fun _ => False) w w' := by
  have HX := hid h
  have HY := hid h'
  have LX := hid h.1
  have LY := hid h'.1
  have hn : (n : Int) ≤ 9223372036854775807 := by have q1 := h.2.1; have q2 := h.2.2.1; simp [maxLen] at q2; omega
  have eg : ∀ args w, (callFunc 73 args).run Try.prog w = .ok (.enter 73 args) w := Go.Proofs.enters_of Try.func73 (by kernel_rfl) rfl
  clear h h'
  by_cases hnm : n = n'
  case neg =>
    have HN := hid (show ¬ xs = ys from fun e => hnm (by rw [LX.out, LY.out, e]))
    have hnm2 : ¬ (n : Int) = (n' : Int) := by omega
    clear hnm
    go_enter Try.func72, Try.ntmps72
    go_wp2_with fail
    go_ret
    exact ⟨by rw [decide_eq_false HN.out]; rfl, Chg.refl _ _⟩
  subst hnm
  go_enter Try.func72, Try.ntmps72
  go_wp2_with fail
  go_loopw [17] (fun i wr => ∃ k : Nat, k ≤ n ∧ i = .int .i64 k ∧ xs.take k = ys.take k ∧ Chg (fun _ => False) w wr) (fun i _ => n - (intOf i).toNat)
  case atStart => exact ⟨0, Nat.zero_le _, rfl, rfl, Chg.refl _ _⟩
  case round =>
    obtain ⟨k, hk, rfl, he, hC⟩ := hrel
    have HE := hid he
    have HC := hid hC
    clear he
    by_cases hlt : k < n
    · obtain ⟨x, hx⟩ : ∃ x, xs[k]? = some x := ⟨_, List.getElem?_eq_getElem (by have := LX.out; omega)⟩
      obtain ⟨y, hy⟩ : ∃ y, ys[k]? = some y := ⟨_, List.getElem?_eq_getElem (by have := LY.out; omega)⟩
      obtain ⟨a, cs, ha, haR, hK, hcs⟩ := HX.out.get (by decide) hx
      obtain ⟨b, ds, hb, hbR, hK', hds⟩ := HY.out.get (by decide) hy
      obtain ⟨E1, p1, r1, E2, p2, r2, rfl, hrw⟩ := entry_open (id hK)
      obtain ⟨D1, q1, s1, D2, q2, s2, rfl, hrw'⟩ := entry_open (id hK')
      have HRX := hid (hrw.chg hC (fun _ _ h => h))
      have HRY := hid (hrw'.chg hC (fun _ _ h => h))
      subst ha hb
      have hcs2 : ∀ j u, (entryCells x E1 p1 r1 E2 p2 r2)[j]? = some u → wr.cell? (a.add (k * 9 + j)) = some u := fun j u hj => hC.cell (hcs j u hj) (fun h => h)
      have hds2 : ∀ j u, (entryCells y D1 q1 s1 D2 q2 s2)[j]? = some u → wr.cell? (b.add (k * 9 + j)) = some u := fun j u hj => hC.cell (hds j u hj) (fun h => h)
      have x0 := elem_cell0 hcs2 _ rfl
      have y0 := elem_cell0 hds2 _ rfl
      have x1 := elem_cell hcs2 0 _ rfl
      have y1 := elem_cell hds2 0 _ rfl
      have x2 := elem_cell hcs2 1 _ rfl
      have y2 := elem_cell hds2 1 _ rfl
      have x3 := elem_cell hcs2 2 _ rfl
      have y3 := elem_cell hds2 2 _ rfl
      have x4 := elem_cell hcs2 3 _ rfl
      have y4 := elem_cell hds2 3 _ rfl
      have x5 := elem_cell hcs2 4 _ rfl
      have y5 := elem_cell hds2 4 _ rfl
      have x6 := elem_cell hcs2 5 _ rfl
      have y6 := elem_cell hds2 5 _ rfl
      have x7 := elem_cell hcs2 6 _ rfl
      have y7 := elem_cell hds2 6 _ rfl
      have x8 := elem_cell hcs2 7 _ rfl
      have y8 := elem_cell hds2 7 _ rfl
      have TX := hid (show xs.take (k + 1) = xs.take k ++ [x] by rw [List.take_add_one, hx]; rfl)
      have TY := hid (show ys.take (k + 1) = ys.take k ++ [y] by rw [List.take_add_one, hy]; rfl)
      have NE := hid (show x ≠ y → xs ≠ ys from fun h e => h (by subst e; rw [hx] at hy; injection hy))
      clear hcs hds hK hK' hcs2 hds2 hx hy haR hbR hrw hrw' hC
      have hlt2 : (k : Int) < (n : Int) := by omega
      obtain ⟨wB, hwB⟩ : ∃ wB, wB = (wr.alloc (.cells #[.int .i64 x.view, .int .i64 x.client, .int .i64 x.request, .int .i64 x.dflt, .int .i64 x.closed, .int .i64 x.fuel, .int .i64 x.stack, .slice E1 p1 r1, .slice E2 p2 r2] 56)).alloc (.cells #[.int .i64 y.view, .int .i64 y.client, .int .i64 y.request, .int .i64 y.dflt, .int .i64 y.closed, .int .i64 y.fuel, .int .i64 y.stack, .slice D1 q1 s1, .slice D2 q2 s2] 56) := ⟨_, rfl⟩
      have CB := hid (show Chg (fun _ => False) wr wB by rw [hwB]; exact ((Chg.refl _ wr).alloc _).alloc _)
      have HWB := hid hwB
      clear hwB
      have z0 := ((Chg.refl (fun _ => False) wr).alloc (.cells #[.int .i64 x.view, .int .i64 x.client, .int .i64 x.request, .int .i64 x.dflt, .int .i64 x.closed, .int .i64 x.fuel, .int .i64 x.stack, .slice E1 p1 r1, .slice E2 p2 r2] 56)).cell y0 (fun h => h)
      have z1 := ((Chg.refl (fun _ => False) wr).alloc (.cells #[.int .i64 x.view, .int .i64 x.client, .int .i64 x.request, .int .i64 x.dflt, .int .i64 x.closed, .int .i64 x.fuel, .int .i64 x.stack, .slice E1 p1 r1, .slice E2 p2 r2] 56)).cell y1 (fun h => h)
      have z2 := ((Chg.refl (fun _ => False) wr).alloc (.cells #[.int .i64 x.view, .int .i64 x.client, .int .i64 x.request, .int .i64 x.dflt, .int .i64 x.closed, .int .i64 x.fuel, .int .i64 x.stack, .slice E1 p1 r1, .slice E2 p2 r2] 56)).cell y2 (fun h => h)
      have z3 := ((Chg.refl (fun _ => False) wr).alloc (.cells #[.int .i64 x.view, .int .i64 x.client, .int .i64 x.request, .int .i64 x.dflt, .int .i64 x.closed, .int .i64 x.fuel, .int .i64 x.stack, .slice E1 p1 r1, .slice E2 p2 r2] 56)).cell y3 (fun h => h)
      have z4 := ((Chg.refl (fun _ => False) wr).alloc (.cells #[.int .i64 x.view, .int .i64 x.client, .int .i64 x.request, .int .i64 x.dflt, .int .i64 x.closed, .int .i64 x.fuel, .int .i64 x.stack, .slice E1 p1 r1, .slice E2 p2 r2] 56)).cell y4 (fun h => h)
      have z5 := ((Chg.refl (fun _ => False) wr).alloc (.cells #[.int .i64 x.view, .int .i64 x.client, .int .i64 x.request, .int .i64 x.dflt, .int .i64 x.closed, .int .i64 x.fuel, .int .i64 x.stack, .slice E1 p1 r1, .slice E2 p2 r2] 56)).cell y5 (fun h => h)
      have z6 := ((Chg.refl (fun _ => False) wr).alloc (.cells #[.int .i64 x.view, .int .i64 x.client, .int .i64 x.request, .int .i64 x.dflt, .int .i64 x.closed, .int .i64 x.fuel, .int .i64 x.stack, .slice E1 p1 r1, .slice E2 p2 r2] 56)).cell y6 (fun h => h)
      have z7 := ((Chg.refl (fun _ => False) wr).alloc (.cells #[.int .i64 x.view, .int .i64 x.client, .int .i64 x.request, .int .i64 x.dflt, .int .i64 x.closed, .int .i64 x.fuel, .int .i64 x.stack, .slice E1 p1 r1, .slice E2 p2 r2] 56)).cell y7 (fun h => h)
      have z8 := ((Chg.refl (fun _ => False) wr).alloc (.cells #[.int .i64 x.view, .int .i64 x.client, .int .i64 x.request, .int .i64 x.dflt, .int .i64 x.closed, .int .i64 x.fuel, .int .i64 x.stack, .slice E1 p1 r1, .slice E2 p2 r2] 56)).cell y8 (fun h => h)
      go_wp2_with fail
      rw [← HWB.out]
      clear HWB x0 y0 x1 y1 x2 y2 x3 y3 x4 y4 x5 y5 x6 y6 x7 y7 x8 y8 z0 z1 z2 z3 z4 z5 z6 z7 z8
      refine (same_any (e := x) (d := y) (HRX.out.chg CB.out (fun _ _ h => h)) (HRY.out.chg CB.out (fun _ _ h => h))).mono ?_
      rintro e w2 ⟨rfl, h2⟩
      have C2 := hid ((HC.out.trans CB.out (fun _ h _ => h)).trans h2 (fun _ h _ => h))
      clear h2
      cases g : decide (x = y)
      · have HN := hid (NE.out (of_decide_eq_false g))
        clear g
        go_wp2_with fail
        go_ret
        exact ⟨by rw [decide_eq_false HN.out]; rfl, C2.out⟩
      · have HN := hid (show xs.take (k + 1) = ys.take (k + 1) by rw [TX.out, TY.out, HE.out, of_decide_eq_true g])
        clear g
        go_wp2_with fail
        go_roundw
        case measure => simp [intOf]; omega
        case rel => first | exact ⟨k + 1, hlt, by go_num, HN.out, C2.out⟩ | ((repeat apply Exists.intro); exact ⟨⟨k + 1, hlt, by go_num, HN.out, C2.out⟩, rfl⟩)
    · have hkn : ¬ (k : Int) < (n : Int) := by omega
      clear hC eg
      go_wp2_with fail
      go_ret
      have e := HE.out
      rw [List.take_of_length_le (by have := LX.out; omega), List.take_of_length_le (by have := LY.out; omega)] at e
      exact ⟨by rw [decide_eq_true e]; rfl, HC.out⟩

set_option maxHeartbeats 4000000 in
set_option maxRecDepth 100000 in
theorem Same_any {R R' : Nat → Prop} {xs ys : List Entry} {A A' : Option Addr} {n c n' c' : Nat} {w : World} (h : Ty.At entryK w R A n c xs) (h' : Ty.At entryK w R' A' n' c' ys) :
    Calls Try.prog 35 #[.slice A n c, .slice A' n' c'] w fun e w' => e = .returned (.bool (decide (xs = ys))) ∧ Chg (fun _ => False) w w' := by
  have HX := hid h
  have HY := hid h'
  clear h h'
  go_enter Try.func35, Try.ntmps35
  go_wp2_with fail
  refine (equalfunc_any HX.out HY.out).mono ?_
  rintro e w1 ⟨rfl, h1⟩
  have H1 := hid h1
  clear h1
  go_wp2_with fail
  go_ret
  exact ⟨rfl, H1.out⟩
end Go.Proofs.Ytaldoajdhbndhaa.Pa


/- The document's reader: its rule. -/

namespace Go.Proofs.Ytaldoajdhbndhaa.Pa

set_option linter.unusedVariables false

set_option linter.unusedSimpArgs false

open Go.RowKit Go.Proofs.Ytaldoajdhbndhaa.C

attribute [local go_sem] max2_int min2_int max_two min_two

theorem put_blk {g : Nat} {e : TypeId} (vs : List Value) (w : World) (cur : Array Value) (h : w.heap[g]? = some (.cells cur e (0, 0))) (hl : vs.length = cur.size) : (w.setCells g 0 vs).heap[g]? = some (.cells vs.toArray e (0, 0)) ∧ Chg (fun k => k = g) w (w.setCells g 0 vs) := by
  obtain ⟨cur', h1, h2⟩ := setCells_row vs 0 w cur h (by omega)
  refine ⟨?_, setCells_chg g vs 0 w⟩
  have e : cur' = vs.toArray := by
    apply Array.ext'
    rw [h2]
    simp [hl]
  rw [h1, e]
end Go.Proofs.Ytaldoajdhbndhaa.Pa


/- The document's reader: its entry. -/

namespace Go.Proofs.Ytaldoajdhbndhaa.Pa

set_option linter.unusedVariables false

set_option linter.unusedSimpArgs false

open Go.RowKit Go.Proofs.Ytaldoajdhbndhaa.C

attribute [local go_sem] max2_int min2_int max_two min_two

theorem infoInt : (Try.prog.info? 3).map (fun i => (i.zero, i.size, i.bytes)) = some (some (.int .i64 0), 1, 8) := by kernel_rfl
end Go.Proofs.Ytaldoajdhbndhaa.Pa


/- Frames as plain data: what a frame is, what is read of bytes, and the plain laws of both. No program here. -/

namespace Go.Proofs.Ytaldoajdhbndhaa.FrameP

set_option linter.unusedVariables false

def step (s : Nat × Nat) (c : UInt8) : Nat × Nat := ((s.1 + c.toNat) % 65521, (s.2 + (s.1 + c.toNat) % 65521) % 65521)
def sums (l : List UInt8) : Nat × Nat := l.foldl step (1, 0)
def sum (l : List UInt8) : Nat := (sums l).2 * 65536 + (sums l).1
def byte (n : Nat) : UInt8 := UInt8.ofNat n
def num4 (n : Nat) : List UInt8 := [byte (n / 16777216), byte (n / 65536), byte (n / 256), byte n]
def four (l : List UInt8) : Nat := ((((l.getD 0 0).toNat * 256 + (l.getD 1 0).toNat) * 256 + (l.getD 2 0).toNat) * 256) + (l.getD 3 0).toNat
def frame (body : List UInt8) : List UInt8 := [67, 70] ++ num4 body.length ++ num4 (sum body) ++ body
/-- An error's number (0: none), and the body. -/
def read (b : List UInt8) : Nat × List UInt8 :=
  if b.length < 10 then (11, []) else if b.getD 0 0 ≠ 67 ∨ b.getD 1 0 ≠ 70 then (10, [])
  else if 65536 < four (b.drop 2) then (12, []) else if b.length - 10 < four (b.drop 2) then (11, [])
  else if four (b.drop 6) ≠ sum ((b.drop 10).take (four (b.drop 2))) then (15, []) else (0, (b.drop 10).take (four (b.drop 2)))
end Go.Proofs.Ytaldoajdhbndhaa.FrameP


/- States and records of a ledger as plain data: what is right, how a record is applied, the records between two states, and what bytes tell. No program in sight. -/

namespace Go.Proofs.Ytaldoajdhbndhaa.Pa

set_option linter.unusedVariables false

structure St where
  view : Int
  normal : Int
  commit : Int
  active : Int
  log : List Entry
deriving DecidableEq
def st0 : St := ⟨0, 0, 0, 0, []⟩
/-- Is a state right? -/
def stR (s : St) : Bool := decide (0 ≤ s.view ∧ s.view ≤ 1099511627776 ∧ 0 ≤ s.normal ∧ s.normal ≤ s.view ∧ (s.log.length : Int) ≤ 64 ∧ 0 ≤ s.commit ∧ s.commit ≤ (s.log.length : Int) ∧ 0 ≤ s.active ∧ s.active ≤ 64) && s.log.all (fun e => entryR e)
theorem stR_iff {s : St} : stR s = true ↔ (0 ≤ s.view ∧ s.view ≤ 1099511627776 ∧ 0 ≤ s.normal ∧ s.normal ≤ s.view ∧ (s.log.length : Int) ≤ 64 ∧ 0 ≤ s.commit ∧ s.commit ≤ (s.log.length : Int) ∧ 0 ≤ s.active ∧ s.active ≤ 64) ∧ ∀ e ∈ s.log, entryR e = true := by
  unfold stR
  rw [Bool.and_eq_true, decide_eq_true_eq, List.all_eq_true]
/-- A right record applied to a right state. -/
def applyS (s : St) (r : Rec) : Option St :=
  if r.kind = 1 then (if s.view ≤ r.a ∧ s.normal ≤ r.b ∧ r.b ≤ r.a then some { s with view := r.a, normal := r.b } else none)
  else if r.kind = 2 then (if (s.log.length : Int) < 64 then some { s with log := s.log ++ r.log } else none)
  else if r.kind = 3 then (if s.commit ≤ r.a ∧ r.a ≤ (s.log.length : Int) then some { s with log := s.log.take r.a.toNat } else none)
  else if r.kind = 4 then (if s.commit ≤ r.a ∧ r.a ≤ (s.log.length : Int) then some { s with commit := r.a } else none)
  else if r.kind = 5 then (if r.a ≤ 64 then some { s with active := r.a } else none)
  else none
end Go.Proofs.Ytaldoajdhbndhaa.Pa


/- append onto nothing: a row of one's own with the same things. And states in memory. -/

namespace Go.Proofs.Ytaldoajdhbndhaa.Pa

set_option linter.unusedVariables false

set_option linter.unusedSimpArgs false

open Go.RowKit Go.Proofs.Ytaldoajdhbndhaa.C

attribute [local go_sem] max2_int min2_int max_two min_two

/-- What an element's cells say rests on no memory. -/
def Flat {α : Type} (d : Ty α) : Prop := ∀ {w w' : World} {S S' : Nat → Prop} {x : α} {cs : List Value}, d.K w S x cs → d.K w' S' x cs
theorem flat_int (k : IntKind) : Flat (Ty.int k) := fun h => h
theorem flat_rule : Flat ruleK := fun h => h
theorem Flat.row {α : Type} {d : Ty α} (hf : Flat d) {w w' : World} {S S' : Nat → Prop} {xs : List α} {cs : List Value} (h : Ty.Row d w S xs cs) : Ty.Row d w' S' xs cs := ⟨h.1, fun i x hx => hf (h.2 i x hx)⟩
section

variable {P : Program} {ops : Array Oper} {rest : List Oper} {o : Oper} {a : Act} {Q : Exit → Act → World → Prop}

end

/-- append(xs[:len:len], ys...): a new row. -/
theorem join_run {α : Type} {d : Ty α} {P : Program} (w : World) (t ty e : TypeId) (z : Value) (bytes : Nat) (ht : P.underlying t = some (.slice e))
    (hinfo : (P.info? e).map (fun i => (i.zero, i.size, i.bytes)) = some (some z, d.sz, bytes)) (hzs : z.cells.size = d.sz) (hsz : 0 < d.sz) (hb0 : 0 < bytes)
    {R R2 : Nat → Prop} {A B : Option Addr} {n m c : Nat} {xs ys : List α} (h : Ty.At d w R A n n xs) (h2 : Ty.At d w R2 B m c ys) (hm : 0 < m) (hbytes : (n + m) * bytes ≤ 140737488355328) :
    ∃ A' c' w', (Builtin.append_ #[t, t] ty #[.slice A n n, .slice B m c]).run P w = .ok (.slice A' (n + m) c') w' ∧ Ty.At d w' (fun k => (R k ∨ R2 k ∨ w.heap.size ≤ k) ∧ k < w'.heap.size) A' (n + m) c' (xs ++ ys) ∧ Chg (fun _ => False) w w' := by
  obtain ⟨i, hi, hz0, hz1, hz2⟩ := info_parts hinfo
  have hnm : n + m ≤ 140737488355328 := Nat.le_trans (Nat.le_mul_of_pos_right _ hb0) hbytes
  cases A with
  | none =>
    have hn : n = 0 := h.2.2.2.1 rfl
    subst hn
    have hx : xs = [] := List.eq_nil_of_length_eq_zero h.1.symm
    subst hx
    obtain ⟨q1, q2, q3, q4, news, q5, q6⟩ := h2.bound
    obtain ⟨A', c', w', hr, g1, g2⟩ := (Vec.nil d e w (fun _ => False) (fun k => R2 k ∧ k < w.heap.size)).app_run (P := P) w t ty e z bytes ht hinfo hzs hsz hb0 q4 q2 q1 q5 (q6.mono (fun k hk => ⟨hk, by simp [Value.ownBlock], hk.2⟩)) (by simpa using hbytes)
    simp only [List.length_nil, Nat.zero_add, List.nil_append] at hr g1 ⊢
    exact ⟨A', c', w', hr, g1.at.bound.mono (fun k hk => ⟨by rcases hk.1 with (k1 | k1) | k1; exact k1.elim; exact .inr (.inr k1); exact .inr (.inl k1.1), hk.2⟩), g2.mono (fun k hk _ => by simp [Value.ownBlock] at hk)⟩
  | some a =>
    obtain ⟨q1, q2, q3, q4, news, q5, q6⟩ := h2.bound
    obtain ⟨p1, p2, p3, p4, olds, p5, p6⟩ := h.bound
    have hB : ∃ b, B = some b := by
      cases B with
      | none => have := q4 rfl; omega
      | some b => exact ⟨b, rfl⟩
    obtain ⟨b, rfl⟩ := hB
    have seen : ∀ {a : Addr} {S : Nat → Prop} {cs : List Value}, Sees w S (some a) cs → ∀ j u, cs[j]? = some u → w.cell? (a.add j) = some u := fun hs => by
      rcases hs with h | ⟨a', ha, _, hx⟩
      · intro j u hj; rw [h] at hj; simp at hj
      · cases ha; exact hx
    obtain ⟨v', w', hr, g1, g2⟩ := run_append_arg_grows (P := P) w t ty e i z d.sz bytes ht hi hz0 hz1 hz2 hzs hsz a n n olds (by rw [p6.1, p1]) (seen p5) b m c news (by rw [q6.1, q1]) (seen q5) (by omega) (by simp only [maxLen]; omega) hbytes
    have hc : Chg (fun _ => False) w w' := ⟨g2.os, g2.tape, g2.output, g2.size, fun k hk _ => g2.block k hk (by simp)⟩
    obtain ⟨A', c', rfl, r1, r2, r3, r4⟩ := own_sees g1
    refine ⟨A', c', w', hr, ⟨by rw [List.length_append]; omega, r1, r2, r3, olds ++ news, ?_, ?_⟩, hc⟩
    · refine (r4.bound).mono (fun k hk => ⟨.inr (.inr ?_), hk.2⟩)
      obtain ⟨_, hh⟩ := g1
      rcases hh with hh | ⟨g, cap, cur, hv, hg, _⟩
      · rw [hh.1] at hk; simp [Value.ownBlock] at hk
      · rw [hv] at hk
        have := hk.1
        simp [Value.ownBlock] at this
        omega
    · refine Ty.Row.append ((p6.chg hc (fun _ _ h => h)).mono (fun k hk => ⟨.inl hk.1, Nat.lt_of_lt_of_le hk.2 hc.size⟩)) ((q6.chg hc (fun _ _ h => h)).mono (fun k hk => ⟨.inr (.inl hk.1), Nat.lt_of_lt_of_le hk.2 hc.size⟩))
section

variable {P : Program} {ops : Array Oper} {rest : List Oper} {o : Oper} {a : Act} {Q : Exit → Act → World → Prop}
theorem join_step {E : Prop} {α : Type} {d : Ty α} (w : World) {K : Act → World → Prop} (hgd : o.guard = none) (s x : Operand) (t e : TypeId) (z : Value) (bytes : Nat)
    (ho : o.op = .call { callee := .builtin .append, args := #[s, x], argTypes := #[t, t] }) (ht : P.underlying t = some (.slice e))
    (hinfo : (P.info? e).map (fun i => (i.zero, i.size, i.bytes)) = some (some z, d.sz, bytes)) (hzs : z.cells.size = d.sz) (hsz : 0 < d.sz) (hb0 : 0 < bytes)
    {R R2 : Nat → Prop} {A B : Option Addr} {n m c : Nat} {xs ys : List α} (hs : a.eval s = .slice A n n) (hx : a.eval x = .slice B m c) (h1 : Ty.At d w R A n n xs) (h2 : Ty.At d w R2 B m c ys) (hm : 0 < m) (hbytes : (n + m) * bytes ≤ 140737488355328)
    (h : ∀ A' c' w', Ty.At d w' (fun k => (R k ∨ R2 k ∨ w.heap.size ≤ k) ∧ k < w'.heap.size) A' (n + m) c' (xs ++ ys) → Chg (fun _ => False) w w' → K (a.put o.dst (.slice A' (n + m) c')) w') :
    if Region.wanted o (yielded ops a.tmps) = true then Oper.wp P o a w K Q else E := by
  have hw : Region.wanted o (yielded ops a.tmps) = true := by simp [Region.wanted, hgd]
  rw [if_pos hw]
  obtain ⟨A', c', w', hr, g1, g2⟩ := join_run (P := P) w t o.type e z bytes ht hinfo hzs hsz hb0 h1 h2 hm hbytes
  unfold Oper.wp execOp
  simp only [ho, resolve, invoke, builtin, Sem.run_bind, Sem.run_pure, Result.andThen_ok, List.map_toArray, List.map_cons, List.map_nil, hs, hx, hr]
  exact h A' c' w' g1 g2
end

/-- A state's cells between others. -/
def stRow (pre post : List Value) (s : St) (A : Option Addr) (n c : Nat) : Array Value := (pre ++ (.int .i64 s.view :: .int .i64 s.normal :: .int .i64 s.commit :: .int .i64 s.active :: .slice A n c :: post)).toArray
/-- A value of some cells in a new block, as a row of one element. -/
theorem lit_at {α : Type} {d : Ty α} {W : World} {t : TypeId} {R : Nat → Prop} {x : α} {cs : Array Value} (h : d.K W R x cs.toList) : Ty.At d (W.alloc (.cells cs t)) (fun k => R k ∨ k = W.heap.size) (some ⟨W.heap.size, 0, none⟩) 1 1 [x] := by
  refine ⟨rfl, Nat.le_refl _, by simp [maxLen], by simp, cs.toList, .inr ⟨_, rfl, .inr rfl, fun j u hj => ?_⟩, Ty.Row.one_ ?_⟩
  · rw [add_at, Nat.zero_add, cellAt (blk_new W _)]
    simpa using hj
  · exact d.mono (d.chg h ((Chg.refl (fun _ => False) W).alloc _) (fun _ _ h => h)) (fun k hk => .inl hk)
end Go.Proofs.Ytaldoajdhbndhaa.Pa


/- The contracts of Right at states, the program's and the document's. -/

namespace Go.Proofs.Ytaldoajdhbndhaa.Pa

set_option linter.unusedVariables false

set_option linter.unusedSimpArgs false

open Go.RowKit Go.Proofs.Ytaldoajdhbndhaa.C

attribute [local go_sem] max2_int min2_int max_two min_two
theorem lgq_clo {R : Nat → Prop} {r : Entry} {E1 : Option Addr} {m1 d1 : Nat} {E2 : Option Addr} {m2 d2 : Nat} (w : World) (he : EntryAt w R r E1 m1 d1 E2 m2 d2) : Calls Try.prog 81 #[.agg (entryCells r E1 m1 d1 E2 m2 d2).toArray] w fun e w' => e = .returned (.bool (!(entryR r))) ∧ Chg (fun _ => False) w w' := by
  show Calls Try.prog _ #[.agg #[.int .i64 r.view, .int .i64 r.client, .int .i64 r.request, .int .i64 r.dflt, .int .i64 r.closed, .int .i64 r.fuel, .int .i64 r.stack, .slice E1 m1 d1, .slice E2 m2 d2]] w _
  have HE := hid he
  clear he
  go_enter Try.func81, Try.ntmps81
  go_wp2_with fail
  refine (entryright_any (e := r) (HE.out.chg ((Chg.refl (fun _ => False) w).alloc _) (fun _ _ h => h))).mono ?_
  rintro e w1 ⟨rfl, h1⟩
  have H1 := hid (((Chg.refl (fun _ => False) w).alloc _).trans h1 (fun _ h _ => h))
  clear h1
  go_wp2_with fail
  go_ret
  exact ⟨rfl, H1.out⟩
set_option maxHeartbeats 4000000 in
set_option maxRecDepth 100000 in
theorem lgq_idx {R : Nat → Prop} {A : Option Addr} {n c : Nat} {xs : List (Entry)} {w : World} (hl : Ty.At entryK w R A n c xs) :
    Calls Try.prog 109 #[.slice A n c, .func (.func 81) #[] #[]] w (EntqIdx xs w) := by
  have HL := hid hl
  have hn2 : (n : Int) ≤ 9223372036854775807 := by have q1 := hl.2.1; have q2 := hl.2.2.1; simp [maxLen] at q2; omega
  have eg : ∀ args w, (callFunc 81 args).run Try.prog w = .ok (.enter 81 args) w := Go.Proofs.enters_of Try.func81 (by kernel_rfl) rfl
  clear hl
  go_enter Try.func109, Try.ntmps109
  go_wp2_with fail
  go_loopw [8] (fun i wr => ∃ k : Nat, k ≤ n ∧ i = .int .i64 k ∧ (xs.take k).all (fun r => entryR r) = true ∧ Chg (fun _ => False) w wr) (fun i _ => n - (intOf i).toNat)
  case atStart => exact ⟨0, Nat.zero_le _, rfl, rfl, Chg.refl _ _⟩
  case round =>
    obtain ⟨k, hk, rfl, hp, hC⟩ := hrel
    have HP := hid hp
    have HC := hid hC
    clear hp
    by_cases hlt : k < n
    · obtain ⟨r, hr⟩ : ∃ r, xs[k]? = some r := ⟨_, List.getElem?_eq_getElem (by have := HL.out.1; omega)⟩
      obtain ⟨a, cs, ha, haR, hK, hcs⟩ := HL.out.get (by decide) hr
      obtain ⟨E1, m1, d1, E2, m2, d2, rfl, hrw⟩ := entry_open (id hK)
      have HRW := hid hrw
      clear hrw
      subst ha
      have hcs2 : ∀ j u, (entryCells r E1 m1 d1 E2 m2 d2)[j]? = some u → wr.cell? (a.add (k * 9 + j)) = some u := fun j u hj => hC.cell (hcs j u hj) (fun h => h)
      have x0 := elem_cell0 hcs2 _ rfl
      have x1 := elem_cell hcs2 0 _ rfl
      have x2 := elem_cell hcs2 1 _ rfl
      have x3 := elem_cell hcs2 2 _ rfl
      have x4 := elem_cell hcs2 3 _ rfl
      have x5 := elem_cell hcs2 4 _ rfl
      have x6 := elem_cell hcs2 5 _ rfl
      have x7 := elem_cell hcs2 6 _ rfl
      have x8 := elem_cell hcs2 7 _ rfl
      have HN := hid (entq_allk hr)
      have HX := hid (entq_alln (xs := xs) (k := k + 1))
      clear hcs hK hcs2 hr haR hC
      have hlt2 : (k : Int) < (n : Int) := by omega
      go_wp2_with fail
      refine (lgq_clo _ (HRW.out.chg HC.out (fun _ _ h => h))).mono ?_
      rintro e w2 ⟨rfl, h2⟩
      have HC2 := hid (HC.out.trans h2 (fun _ h _ => h))
      clear h2 x0 x1 x2 x3 x4 x5 x6 x7 x8
      cases hrr : entryR r
      · have HF := hid (HX.out (by rw [HN.out, hrr, Bool.and_false]))
        clear hrr
        go_wp2_with fail
        go_ret
        exact ⟨⟨(k : Int), rfl, by rw [HF.out]; simp⟩, HC2.out⟩
      · have HF := hid (show (xs.take (k + 1)).all (fun r => entryR r) = true by rw [HN.out, HP.out, hrr]; rfl)
        clear hrr
        go_wp2_with fail
        go_roundw
        case measure => simp [intOf]; omega
        case rel => first | exact ⟨k + 1, hlt, by go_num, HF.out, HC2.out⟩ | ((repeat apply Exists.intro); exact ⟨⟨k + 1, hlt, by go_num, HF.out, HC2.out⟩, rfl⟩)
    · clear eg hC
      have hkn : ¬ (k : Int) < (n : Int) := by omega
      go_wp2_with fail
      go_ret
      have hp := HP.out
      rw [List.take_of_length_le (by have := HL.out.1; omega)] at hp
      exact ⟨⟨-1, rfl, by rw [hp]; rfl⟩, HC.out⟩
set_option maxHeartbeats 4000000 in
set_option maxRecDepth 100000 in
theorem lgq_contains {R : Nat → Prop} {A : Option Addr} {n c : Nat} {xs : List (Entry)} {w : World} (hl : Ty.At entryK w R A n c xs) :
    Calls Try.prog 80 #[.slice A n c, .func (.func 81) #[] #[]] w fun e w' => e = .returned (.bool (!(xs.all (fun r => entryR r)))) ∧ Chg (fun _ => False) w w' := by
  have HL := hid hl
  clear hl
  go_enter Try.func80, Try.ntmps80
  go_wp2_with fail
  refine (lgq_idx HL.out).mono ?_
  rintro e w1 ⟨⟨i, rfl, hi⟩, hc⟩
  have HI := hid hi
  have HC := hid hc
  clear hi hc
  go_wp2_with fail
  go_ret
  exact ⟨by rw [← HI.out]; rfl, HC.out⟩

set_option maxHeartbeats 4000000 in
set_option maxRecDepth 100000 in
theorem stright_any {R : Nat → Prop} {s : St} {A : Option Addr} {n c : Nat} {w : World} (hl : Ty.At entryK w R A n c s.log) :
    Calls Try.prog 42 #[.agg #[.int .i64 s.view, .int .i64 s.normal, .int .i64 s.commit, .int .i64 s.active, .slice A n c]] w fun e' w' => e' = .returned (.bool (stR s)) ∧ Chg (fun _ => False) w w' := by
  obtain ⟨w0, hw0⟩ : ∃ w0, w0 = w.alloc (.cells #[.int .i64 s.view, .int .i64 s.normal, .int .i64 s.commit, .int .i64 s.active, .slice A n c] 26) := ⟨_, rfl⟩
  have CB := hid (show Chg (fun _ => False) w w0 by rw [hw0]; exact (Chg.refl _ w).alloc _)
  have B1 := hid (show w0.heap[w.heap.size]? = some (.cells #[.int .i64 s.view, .int .i64 s.normal, .int .i64 s.commit, .int .i64 s.active, .slice A n c] 26 (0, 0)) by rw [hw0]; exact blk_new w _)
  have HQ := hid (hl.chg CB.out (fun _ _ h => h))
  have L1 := hid hl.1
  have hm1 : (n : Int) ≤ 9223372036854775807 := by have q1 := hl.2.1; have q2 := hl.2.2.1; simp [maxLen] at q2; omega
  clear hl
  by_cases k0 : 0 ≤ s.view
  case neg =>
    have G := hid (show stR s = false from Bool.eq_false_iff.2 (fun h => by have h1 := (stR_iff.1 h).1; have h2 := L1.out; omega))
    go_enter Try.func42, Try.ntmps42
    go_wp2_with fail
    rw [← hw0]
    go_ret
    exact ⟨by rw [G.out]; rfl, CB.out⟩
  by_cases k1 : s.view ≤ 1099511627776
  case neg =>
    have G := hid (show stR s = false from Bool.eq_false_iff.2 (fun h => by have h1 := (stR_iff.1 h).1; have h2 := L1.out; omega))
    go_enter Try.func42, Try.ntmps42
    go_wp2_with fail
    rw [← hw0]
    go_ret
    exact ⟨by rw [G.out]; rfl, CB.out⟩
  by_cases k2 : 0 ≤ s.normal
  case neg =>
    have G := hid (show stR s = false from Bool.eq_false_iff.2 (fun h => by have h1 := (stR_iff.1 h).1; have h2 := L1.out; omega))
    go_enter Try.func42, Try.ntmps42
    go_wp2_with fail
    rw [← hw0]
    go_ret
    exact ⟨by rw [G.out]; rfl, CB.out⟩
  by_cases k3 : s.normal ≤ s.view
  case neg =>
    have G := hid (show stR s = false from Bool.eq_false_iff.2 (fun h => by have h1 := (stR_iff.1 h).1; have h2 := L1.out; omega))
    go_enter Try.func42, Try.ntmps42
    go_wp2_with fail
    rw [← hw0]
    go_ret
    exact ⟨by rw [G.out]; rfl, CB.out⟩
  by_cases k4 : (n : Int) ≤ 64
  case neg =>
    have G := hid (show stR s = false from Bool.eq_false_iff.2 (fun h => by have h1 := (stR_iff.1 h).1; have h2 := L1.out; omega))
    go_enter Try.func42, Try.ntmps42
    go_wp2_with fail
    rw [← hw0]
    go_ret
    exact ⟨by rw [G.out]; rfl, CB.out⟩
  by_cases k5 : 0 ≤ s.commit
  case neg =>
    have G := hid (show stR s = false from Bool.eq_false_iff.2 (fun h => by have h1 := (stR_iff.1 h).1; have h2 := L1.out; omega))
    go_enter Try.func42, Try.ntmps42
    go_wp2_with fail
    rw [← hw0]
    go_ret
    exact ⟨by rw [G.out]; rfl, CB.out⟩
  by_cases k6 : s.commit ≤ (n : Int)
  case neg =>
    have G := hid (show stR s = false from Bool.eq_false_iff.2 (fun h => by have h1 := (stR_iff.1 h).1; have h2 := L1.out; omega))
    go_enter Try.func42, Try.ntmps42
    go_wp2_with fail
    rw [← hw0]
    go_ret
    exact ⟨by rw [G.out]; rfl, CB.out⟩
  by_cases k7 : 0 ≤ s.active
  case neg =>
    have G := hid (show stR s = false from Bool.eq_false_iff.2 (fun h => by have h1 := (stR_iff.1 h).1; have h2 := L1.out; omega))
    go_enter Try.func42, Try.ntmps42
    go_wp2_with fail
    rw [← hw0]
    go_ret
    exact ⟨by rw [G.out]; rfl, CB.out⟩
  by_cases k8 : s.active ≤ 64
  case neg =>
    have G := hid (show stR s = false from Bool.eq_false_iff.2 (fun h => by have h1 := (stR_iff.1 h).1; have h2 := L1.out; omega))
    go_enter Try.func42, Try.ntmps42
    go_wp2_with fail
    rw [← hw0]
    go_ret
    exact ⟨by rw [G.out]; rfl, CB.out⟩
  have G := hid (show stR s = s.log.all (fun e => entryR e) by unfold stR; rw [decide_eq_true (by have h2 := L1.out; omega)]; rfl)
  go_enter Try.func42, Try.ntmps42
  go_wp2_with fail
  rw [← hw0]
  clear hw0 k0 k1 k2 k3 k4 k5 k6 k7 k8
  have x0 : w0.cell? ⟨w.heap.size, 0, none⟩ = some (.int .i64 s.view) := (cellAt B1.out 0).trans rfl
  have x1 : w0.cell? ⟨w.heap.size, 1, none⟩ = some (.int .i64 s.normal) := (cellAt B1.out 1).trans rfl
  have x2 : w0.cell? ⟨w.heap.size, 2, none⟩ = some (.int .i64 s.commit) := (cellAt B1.out 2).trans rfl
  have x3 : w0.cell? ⟨w.heap.size, 3, none⟩ = some (.int .i64 s.active) := (cellAt B1.out 3).trans rfl
  have x4 : w0.cell? ⟨w.heap.size, 4, none⟩ = some (.slice A n c) := (cellAt B1.out 4).trans rfl
  refine (lgq_contains HQ.out).mono ?_
  rintro e' w2 ⟨rfl, h2⟩
  have H2 := hid (CB.out.trans h2 (fun _ h _ => h))
  clear h2
  go_wp2_with fail
  go_ret
  exact ⟨by rw [G.out]; simp, H2.out⟩
end Go.Proofs.Ytaldoajdhbndhaa.Pa


/- The contract of copied. -/

namespace Go.Proofs.Ytaldoajdhbndhaa.Pa

set_option linter.unusedVariables false

set_option linter.unusedSimpArgs false

open Go.RowKit Go.Proofs.Ytaldoajdhbndhaa.C

attribute [local go_sem] max2_int min2_int max_two min_two

/-- How many rules and numbers entries may have, so that a copy of them has room. -/
def Fits (xs : List Entry) : Prop := ∀ e ∈ xs, e.put.length ≤ 1000000 ∧ e.drop.length ≤ 1000000
theorem entryR_fits {e : Entry} (h : entryR e = true) : e.put.length ≤ 1000000 ∧ e.drop.length ≤ 1000000 := by
  unfold entryR at h
  simp only [Bool.and_eq_true, decide_eq_true_eq] at h
  have h1 := h.1.1.1.2
  have h2 := h.1.1.2
  omega
theorem fits_right {xs : List Entry} (h : ∀ e ∈ xs, entryR e = true) : Fits xs := fun e he => entryR_fits (h e he)
theorem infoRuleP : (Try.prog.info? 104).map (fun i => (i.zero, i.size, i.bytes)) = some (some (.agg #[.int .i64 0, .int .i64 0, .int .i64 0, .int .i64 0, .string ByteArray.empty]), 5, 48) := by kernel_rfl
theorem infoEntryP : (Try.prog.info? 56).map (fun i => (i.zero, i.size, i.bytes)) = some (some (.agg #[.int .i64 0, .int .i64 0, .int .i64 0, .int .i64 0, .int .i64 0, .int .i64 0, .int .i64 0, .slice none 0 0, .slice none 0 0]), 9, 104) := by kernel_rfl
end Go.Proofs.Ytaldoajdhbndhaa.Pa


/- The contract of apply. -/

namespace Go.Proofs.Ytaldoajdhbndhaa.Pa

set_option linter.unusedVariables false

set_option linter.unusedSimpArgs false

open Go.RowKit Go.Proofs.Ytaldoajdhbndhaa.C

attribute [local go_sem] max2_int min2_int max_two min_two
theorem at_clip {α : Type} {d : Ty α} {w : World} {S : Nat → Prop} {A : Option Addr} {n c : Nat} {xs : List α} (h : Ty.At d w S A n c xs) : Ty.At d w S A n n xs := by
  obtain ⟨h1, h2, h3, h4, h5⟩ := h
  exact ⟨h1, Nat.le_refl _, Nat.le_trans h2 h3, fun e => by have := h4 e; omega, h5⟩
set_option maxHeartbeats 4000000 in
set_option maxRecDepth 100000 in
theorem clip_any {w : World} {A : Option Addr} {n c : Nat} (hn : n ≤ c) (hm : n ≤ 1000000000) :
    Calls Try.prog 77 #[.slice A n c] w fun e w' => e = .returned (.slice A n n) ∧ w = w' := by
  have ha : (A.map fun x => x.add 0) = A := by cases A <;> simp [Addr.add]
  have hcut : ∀ W : World, (Instr.slice 24 (.slice A n c) none (some (.int .i64 (n : Int))) (some (.int .i64 (n : Int)))).run Try.prog W = .ok (.slice A n n) W := fun W => by
    obtain ⟨i, hi, _, hs, _⟩ := info_parts infoEntryP
    have hel : Try.prog.elem 24 = 56 := by simp [Program.elem, Try.underlying24]
    have h0 : (0 : Int) ≤ (n : Int) := by omega
    have h1 : (n : Int) ≤ (c : Int) := by omega
    rw [run_slice_any W 24 A n c (by rw [hel]; exact Try.underlying24), hel]
    simp [Instr.sliceBounds, run_sliceBound, h0, h1, sizeOf, typeInfo, hi, sliced, Result.andThen, ha]
  go_enter Try.func77, Try.ntmps77
  go_wp2_with fail
  go_ret
  exact ⟨rfl, rfl⟩
/-- What apply does. -/
def Applied (R : Nat → Prop) (q t : Nat) (pre post : List Value) (s : St) (r : Rec) (w : World) (e' : Ending) (w' : World) : Prop :=
  (applyS s r = none ∧ e' = .returned (.bool false) ∧ Chg (fun _ => False) w w') ∨
  ∃ s' A' n' c', applyS s r = some s' ∧ e' = .returned (.bool true) ∧ w'.heap[q]? = some (.cells (stRow pre post s' A' n' c') t (0, 0)) ∧ Ty.At entryK w' (fun k => (R k ∨ w.heap.size ≤ k) ∧ k < w'.heap.size) A' n' c' s'.log ∧ Chg (fun k => k = q) w w'
end Go.Proofs.Ytaldoajdhbndhaa.Pa


/- The contract of Apply. -/

namespace Go.Proofs.Ytaldoajdhbndhaa.Pa

set_option linter.unusedVariables false

set_option linter.unusedSimpArgs false

open Go.RowKit Go.Proofs.Ytaldoajdhbndhaa.C

attribute [local go_sem] max2_int min2_int max_two min_two
theorem at_nil_ {α : Type} (d : Ty α) (w : World) (S : Nat → Prop) : Ty.At d w S none 0 0 [] := ⟨rfl, Nat.le_refl _, by simp [maxLen], fun _ => rfl, [], .nil _ _ _, Ty.Row.nil _ _ _⟩
end Go.Proofs.Ytaldoajdhbndhaa.Pa


/- The anchor of the statements about packs; how bytes are compared. -/

namespace Go.Proofs.Ytaldoajdhbndhaa.Pa

set_option linter.unusedVariables false

set_option linter.unusedSimpArgs false

open Go.RowKit Go.Proofs.Ytaldoajdhbndhaa.C

attribute [local go_sem] max2_int min2_int max_two min_two

theorem Byt.at {w : World} {S : Nat → Prop} {A : Option Addr} {n c : Nat} {x : List UInt8} (h : Byt w S (.slice A n c) x) : Ty.At Ty.u8 w S A n c x := by
  obtain ⟨A', c', hv, q1, q2, q3, q4⟩ := own_sees h.row
  injection hv with e1 e2 e3
  subst e1 e3
  exact Ty.At.of_bytes e2 (by omega) q2 q3 (q4.mono (fun k hk => h.rowS k hk))
end Go.Proofs.Ytaldoajdhbndhaa.Pa


/- How the types of packs open. -/

namespace Go.Proofs.Ytaldoajdhbndhaa.Pa

set_option linter.unusedVariables false

open Go.RowKit Go.Proofs.Ytaldoajdhbndhaa.C

def msgK : Ty Msg := Ty.iso (Ty.pair (Ty.int .i64) (Ty.pair (Ty.int .i64) (Ty.pair (Ty.int .i64) (Ty.pair (Ty.int .i64) (Ty.pair (Ty.int .i64) (Ty.pair (Ty.int .i64) (Ty.pair (Ty.int .i64) (Ty.slice entryK)))))))) (fun m => (m.kind, m.view, m.src, m.dst, m.op, m.commit, m.normal, m.log))
def recK : Ty Rec := Ty.iso (Ty.pair (Ty.int .i64) (Ty.pair (Ty.int .i64) (Ty.pair (Ty.int .i64) (Ty.slice entryK)))) (fun m => (m.kind, m.a, m.b, m.log))
theorem msg_open {w : World} {S : Nat → Prop} {m : Msg} {cs : Array Value} (h : msgK.K w S m cs.toList) : ∃ A n c, cs = #[.int .i64 m.kind, .int .i64 m.view, .int .i64 m.src, .int .i64 m.dst, .int .i64 m.op, .int .i64 m.commit, .int .i64 m.normal, .slice A n c] ∧ Ty.At entryK w S A n c m.log := by
  obtain ⟨_, _, e1, ⟨rfl, w1⟩, _, _, rfl, ⟨rfl, w2⟩, _, _, rfl, ⟨rfl, w3⟩, _, _, rfl, ⟨rfl, w4⟩, _, _, rfl, ⟨rfl, w5⟩, _, _, rfl, ⟨rfl, w6⟩, _, _, rfl, ⟨rfl, w7⟩, A, n, c, rfl, h⟩ := h
  exact ⟨A, n, c, Array.ext' e1, h⟩
theorem opens_int_ : Opens Try.prog 3 (Ty.int .i64) := opens_int Try.underlying3 (by kernel_rfl)
theorem opens_nums : Opens Try.prog 52 (Ty.slice (Ty.int .i64)) := opens_slice Try.underlying52 (by kernel_rfl) opens_int_ (by decide)
end Go.Proofs.Ytaldoajdhbndhaa.Pa


/- Contracts of tape.Tape's methods. -/

namespace Go.Proofs.Ytaldoajdhbndhaa.T

set_option linter.unusedVariables false

set_option linter.unusedSimpArgs false

open Go.RowKit Go.Proofs.Ytaldoajdhbndhaa.C

attribute [local go_sem] max2_int min2_int max_two min_two

/-- A tape as plain data. -/
structure TS where
  b : List UInt8
  safe : Int
  room : Int
  left : Int
  down : Bool

def TS.called (T : TS) : TS := { T with down := T.left == 0, left := mx (T.left - 1) (-1) }

/-- Append. -/
def TS.append (T : TS) (l : List UInt8) : TS × Int :=
  if T.down then (T, 40) else if T.room - T.b.length < l.length then (T, 41)
  else ({ T.called with b := T.b ++ l }, if T.left == 0 then 40 else 0)

end Go.Proofs.Ytaldoajdhbndhaa.T


/- Contracts of package frame, and of its reference. -/

namespace Go.Proofs.Ytaldoajdhbndhaa.Fr

set_option linter.unusedVariables false

set_option linter.unusedSimpArgs false

open Go.RowKit Go.Proofs.Ytaldoajdhbndhaa.C

attribute [local go_sem] max2_int min2_int max_two min_two

/-- A row of one's own in a value written out. -/
def Made (w w' : World) (v : Value) (l : List UInt8) : Prop := w'.ownsRow 0 5 1 v l.length (u8s l) ∧ Chg (fun _ => False) w w' ∧ ∀ k, v.ownBlock = some k → w.heap.size ≤ k
end Go.Proofs.Ytaldoajdhbndhaa.Fr


/- Contracts of frame.Read and of its reference, of slices.Clone of bytes, and of the reference's Make. -/

namespace Go.Proofs.Ytaldoajdhbndhaa.Fr

set_option linter.unusedVariables false

set_option linter.unusedSimpArgs false

open Go.RowKit Go.Proofs.Ytaldoajdhbndhaa.C

attribute [local go_sem] max2_int min2_int max_two min_two

def sizeOf (b : List UInt8) : Nat := if (FrameP.read b).1 = 0 then 10 + (FrameP.read b).2.length else 0
end Go.Proofs.Ytaldoajdhbndhaa.Fr


/- The contract of the reference's Make. -/

namespace Go.Proofs.Ytaldoajdhbndhaa.Fr

set_option linter.unusedVariables false

set_option linter.unusedSimpArgs false

open Go.RowKit Go.Proofs.Ytaldoajdhbndhaa.C

attribute [local go_sem] max2_int min2_int max_two min_two

theorem get_of_drop {α : Type} {l : List α} {i : Nat} {o : α} {r : List α} (h : l.drop i = o :: r) : l.toArray[i]? = some o := by
  have h2 : (l.drop i)[0]? = some o := by rw [h]; rfl
  rw [List.getElem?_drop] at h2
  simpa using h2
theorem Made.chg {w w1 w2 : World} {v : Value} {l : List UInt8} {S : Nat → Prop} (h : Made w w1 v l) (hc : Chg S w1 w2) (hS : ∀ k, v.ownBlock = some k → ¬ S k) (hS' : ∀ k, S k → w.heap.size ≤ k) : Made w w2 v l :=
  ⟨hc.own h.1 hS, h.2.1.trans hc (fun k hk hlt => by have := hS' k hk; omega), h.2.2⟩

end Go.Proofs.Ytaldoajdhbndhaa.Fr


/- The contract of records. -/

namespace Go.Proofs.Ytaldoajdhbndhaa.Pa

set_option linter.unusedVariables false

set_option linter.unusedSimpArgs false

open Go.RowKit Go.Proofs.Ytaldoajdhbndhaa.C

attribute [local go_sem] max2_int min2_int max_two min_two

/-- Records that are being listed: they lie in new memory, but not in X. -/
def RecsAt (w0 : World) (X : Nat → Prop) (wx : World) (v : Value) (l : List Rec) : Prop :=
  (∃ A c, v = .slice A l.length c) ∧ Vec recK 126 wx (fun k => w0.heap.size ≤ k ∧ ¬ X k) (fun k => w0.heap.size ≤ k) v l ∧ Chg (fun _ => False) w0 wx
theorem RecsAt.nil {w0 : World} {X : Nat → Prop} : RecsAt w0 X w0 (.slice none 0 0) [] := ⟨⟨none, 0, rfl⟩, Vec.nil _ _ _ _ _, Chg.refl _ _⟩
theorem RecsAt.chg {w0 wx wy : World} {X M : Nat → Prop} {v : Value} {l : List Rec} (h : RecsAt w0 X wx v l) (hc : Chg M wx wy) (hM : ∀ k, M k → k < w0.heap.size ∨ X k ∨ wx.heap.size ≤ k) (hM2 : ∀ k, M k → ¬ k < w0.heap.size) (hX : ∀ k, X k → w0.heap.size ≤ k → v.ownBlock ≠ some k → k < wx.heap.size → ¬ M k) : RecsAt w0 X wy v l :=
  ⟨h.1, h.2.1.chg hc (fun k hk hm => by
    have h1 := h.2.1.inS k hk
    have h2 := h.2.1.lt k hk
    rcases hM k hm with q | q | q
    · omega
    · exact h1.2 q
    · omega) (fun k hk hv hl hm => by
      rcases hM k hm with q | q | q
      · omega
      · exact hX k q hk hv hl hm
      · omega), h.2.2.trans hc (fun k hk hl => hM2 k hk hl)⟩
section

variable {ops : Array Oper} {rest : List Oper} {o : Oper} {a : Act} {Q : Exit → Act → World → Prop}

end
end Go.Proofs.Ytaldoajdhbndhaa.Pa


/- A ledger in memory, and the contract of State. -/

namespace Go.Proofs.Ytaldoajdhbndhaa.Pa

set_option linter.unusedVariables false

set_option linter.unusedSimpArgs false

open Go.RowKit Go.Proofs.Ytaldoajdhbndhaa.C

attribute [local go_sem] max2_int min2_int max_two min_two

def StateTo (s : St) (w : World) (e' : Ending) (w' : World) : Prop :=
  ∃ A' n' c', e' = .returned (.agg #[.int .i64 s.view, .int .i64 s.normal, .int .i64 s.commit, .int .i64 s.active, .slice A' n' c']) ∧ Ty.At entryK w' (fun k => w.heap.size ≤ k ∧ k < w'.heap.size) A' n' c' s.log ∧ Chg (fun _ => False) w w'
end Go.Proofs.Ytaldoajdhbndhaa.Pa


/- The contract of Open. -/

namespace Go.Proofs.Ytaldoajdhbndhaa.Pa

set_option linter.unusedVariables false

set_option linter.unusedSimpArgs false

open Go.RowKit Go.Proofs.Ytaldoajdhbndhaa.C

attribute [local go_sem] max2_int min2_int max_two min_two

theorem Applied.ok {R : Nat → Prop} {q t : Nat} {pre post : List Value} {s : St} {r : Rec} {w : World} {e' : Ending} {w' : World} (h : Applied R q t pre post s r w e' w') :
    ∃ ok : Bool, e' = .returned (.bool ok) ∧ ((ok = false ∧ applyS s r = none ∧ Chg (fun _ => False) w w') ∨ (ok = true ∧ ∃ s' A' n' c', applyS s r = some s' ∧ w'.heap[q]? = some (.cells (stRow pre post s' A' n' c') t (0, 0)) ∧ Ty.At entryK w' (fun k => (R k ∨ w.heap.size ≤ k) ∧ k < w'.heap.size) A' n' c' s'.log ∧ Chg (fun k => k = q) w w')) := by
  rcases h with ⟨h1, h2, h3⟩ | ⟨s', A', n', c', h1, h2, h3⟩
  · exact ⟨false, h2, .inl ⟨rfl, h1, h3⟩⟩
  · exact ⟨true, h2, .inr ⟨rfl, s', A', n', c', h1, h3⟩⟩
end Go.Proofs.Ytaldoajdhbndhaa.Pa


/- A replica as plain data: what it does at each call. Maps by numbers as lists of pairs. No program in sight. -/

namespace Go.Proofs.Ytaldoajdhbndhaa.Pa

set_option linter.unusedVariables false

set_option linter.unusedSimpArgs false

/-- A key's value is set. -/
def ups {α : Type} (k : Int) (v : α) : List (Int × α) → List (Int × α)
  | [] => [(k, v)]
  | p :: r => if p.1 = k then (k, v) :: r else p :: ups k v r
def look {α : Type} (k : Int) (L : List (Int × α)) : Option α := (L.find? (fun p => p.1 = k)).map (·.2)
theorem look_cons {α : Type} (k : Int) (p : Int × α) (L : List (Int × α)) : look k (p :: L) = if p.1 = k then some p.2 else look k L := by
  unfold look
  rw [List.find?_cons]
  by_cases h : p.1 = k <;> simp [h]
theorem ups_map {α β : Type} (f : α → β) (k : Int) (v : α) : ∀ L : List (Int × α), (ups k v L).map (fun p => (p.1, f p.2)) = ups k (f v) (L.map (fun p => (p.1, f p.2)))
  | [] => rfl
  | p :: r => by
    rw [ups, List.map_cons, ups]
    split
    · rfl
    · rw [List.map_cons, ups_map f k v r]
theorem look_map {α β : Type} (f : α → β) (k : Int) : ∀ L : List (Int × α), look k (L.map (fun p => (p.1, f p.2))) = (look k L).map f
  | [] => rfl
  | p :: r => by
    rw [List.map_cons, look_cons, look_cons, look_map f k r]
    split <;> rfl
theorem ups_keys {α : Type} (k : Int) (v : α) : ∀ L : List (Int × α), (ups k v L).map (·.1) = if k ∈ L.map (·.1) then L.map (·.1) else L.map (·.1) ++ [k]
  | [] => rfl
  | p :: r => by
    rw [ups]
    by_cases h : p.1 = k
    · rw [if_pos h]; simp [h]
    · rw [if_neg h, List.map_cons, ups_keys k v r]
      have h2 : ¬ k = p.1 := fun e => h e.symm
      by_cases hr : k ∈ r.map (·.1)
      · rw [if_pos hr, if_pos (by simp only [List.map_cons, List.mem_cons]; exact .inr hr)]; rfl
      · rw [if_neg hr, if_neg (by simp only [List.map_cons, List.mem_cons]; intro h; rcases h with h | h; exact h2 h; exact hr h)]; rfl
theorem ups_len {α : Type} (k : Int) (v : α) (L : List (Int × α)) : (ups k v L).length = if k ∈ L.map (·.1) then L.length else L.length + 1 := by
  have := congrArg List.length (ups_keys k v L)
  rw [List.length_map] at this
  rw [this]
  split <;> simp
theorem ups_none {α : Type} {i : Int} (v : α) : ∀ {L : List (Int × α)}, look i L = none → ups i v L = L ++ [(i, v)]
  | [], _ => rfl
  | p :: r, h => by
    rw [look_cons] at h
    split at h
    · cases h
    · rename_i hp
      rw [ups, if_neg hp, ups_none v h]; rfl
theorem ups_at {α : Type} {i : Int} (v : α) : ∀ {L : List (Int × α)} {j : Nat}, j < L.length → (∀ q, L[j]? = some q → q.1 = i) → (∀ l, l < j → ∀ q, L[l]? = some q → q.1 ≠ i) → ups i v L = L.set j (i, v)
  | [], j, h, _, _ => by simp at h
  | p :: r, 0, _, h, _ => by rw [ups, if_pos (h p rfl)]; rfl
  | p :: r, j + 1, hj, h, h' => by
    rw [ups, if_neg (h' 0 (by omega) p rfl), List.set_cons_succ, ups_at v (by simpa using hj) (fun q hq => h q (by simpa using hq)) (fun l hl q hq => h' (l + 1) (by omega) q (by simpa using hq))]
structure Rp where
  n : Int
  id : Int
  tm : Int
  s : St
  ch : Bool
  acks : List (Int × Int)
  starts : List (Int × Bool)
  chgs : List (Int × Msg)
  said : Bool
  quiet : Int
  out : List Msg
def cfgR (n id tm : Int) : Bool := decide ((n = 3 ∨ n = 5 ∨ n = 7) ∧ 0 ≤ id ∧ id < n ∧ 2 ≤ tm ∧ tm ≤ 100)
def newR (n id tm : Int) (s : St) : Rp := ⟨n, id, tm, s, decide (s.normal ≠ s.view), [], [], [], false, 0, []⟩
def forgetR (r : Rp) : Rp := { r with acks := [], starts := [], chgs := [], said := false, quiet := 0 }
def enterR (r : Rp) (v : Int) : Rp := forgetR { r with s := { r.s with view := v }, ch := true }
def primR (r : Rp) (v : Int) : Int := v % r.n
def halfR (r : Rp) : Int := r.n / 2 + 1
def roleR (r : Rp) : Int := if r.ch then 2 else if primR r r.s.view = r.id then 1 else 0
def sendR (r : Rp) (y : Int) (m : Msg) : Rp := { r with out := r.out ++ [{ m with view := r.s.view, src := r.id, dst := y }] }
/-- What is said to the first k. -/
def sayTo (r : Rp) (m : Msg) : Nat → Rp
  | 0 => r
  | k + 1 => if (k : Int) ≠ r.id then sendR (sayTo r m k) k m else sayTo r m k
def sayR (r : Rp) (m : Msg) : Rp := sayTo r m r.n.toNat
theorem sayTo_same (r : Rp) (m : Msg) : ∀ k, ∃ l, sayTo r m k = { r with out := r.out ++ l } ∧ l.length ≤ k
  | 0 => ⟨[], by simp [sayTo], Nat.le_refl _⟩
  | k + 1 => by
    obtain ⟨l, h1, h2⟩ := sayTo_same r m k
    unfold sayTo
    split
    · rw [h1]
      exact ⟨l ++ [{ m with view := r.s.view, src := r.id, dst := (k : Int) }], by simp [sendR], by simp; omega⟩
    · exact ⟨l, h1, by omega⟩
/-- A message of a kind with a number of the log, and nothing else. -/
def msgOp (kind op : Int) : Msg := ⟨kind, 0, 0, 0, op, 0, 0, []⟩
def toldR (r : Rp) (kind : Int) : Msg := ⟨kind, 0, 0, 0, r.s.log.length, r.s.commit, 0, r.s.log⟩
def beginR (r : Rp) (v : Int) : Rp := sayR { enterR r v with starts := ups r.id true [] } (msgOp 4 0)
def fitsR (r : Rp) (l : List Entry) : Bool := decide (r.s.commit ≤ (l.length : Int)) && decide (l.take r.s.commit.toNat = r.s.log.take r.s.commit.toNat)
/-- The best log of a change: its normal view, itself, and how much of it is known to be committed. -/
structure Best where
  normal : Int
  log : List Entry
  done : Int
def better (b : Best) (m : Msg) : Bool := decide (b.normal < m.normal) || (decide (m.normal = b.normal) && decide (b.log.length < m.log.length))
def bestStep (r : Rp) (b : Best) (i : Int) : Best :=
  match look i r.chgs with
  | none => b
  | some m => if fitsR r m.log then ⟨if better b m then m.normal else b.normal, if better b m then m.log else b.log, max b.done m.commit⟩ else b
def bestTo (r : Rp) : Nat → Best
  | 0 => ⟨r.s.normal, r.s.log, r.s.commit⟩
  | k + 1 => bestStep r (bestTo r k) k
def wonR (r : Rp) (b : Best) : Rp := forgetR { r with s := { r.s with log := b.log, commit := min b.done (b.log.length : Int), normal := r.s.view }, ch := false }
def decideR (r : Rp) : Rp :=
  if r.ch = true ∧ primR r r.s.view = r.id ∧ halfR r ≤ (r.chgs.length : Int) + 1 then sayR (wonR r (bestTo r r.n.toNat)) (toldR (wonR r (bestTo r r.n.toNat)) 6) else r
def seeR (r : Rp) : Rp :=
  if r.ch = true ∧ r.said = false ∧ halfR r ≤ (r.starts.length : Int) then
    if primR r r.s.view = r.id then decideR { r with said := true }
    else sendR { r with said := true } (primR r r.s.view) { toldR r 5 with normal := r.s.normal }
  else r
def tookR (r : Rp) (m : Msg) : Rp := forgetR { r with s := { r.s with view := m.view, normal := m.view, log := m.log, commit := max r.s.commit (min m.commit (m.log.length : Int)) }, ch := false }
def takeR (r : Rp) (m : Msg) : Rp := if fitsR r m.log then sendR (tookR r m) (primR r m.view) (msgOp 2 m.log.length) else r
/-- What is told of an entry: 0, 31 (twice) or 52 (busy); from a log's entry i on. -/
def hadTo (c : Int) (e : Entry) : List Entry → Int → Int → Int
  | [], _, o => o
  | x :: l, i, o => if x.client ≠ e.client ∨ x.request < e.request then hadTo c e l (i + 1) o else if e.request < x.request ∨ i < c then 31 else hadTo c e l (i + 1) 52
def hadR (r : Rp) (e : Entry) : Int := hadTo r.s.commit e r.s.log 0 0
def putR (r : Rp) (l : List Entry) : Rp := { r with s := { r.s with log := r.s.log ++ l } }
def submitR (r : Rp) (e : Entry) : Rp × Int :=
  if roleR r ≠ 1 then (r, 50)
  else if entryR e = false then (r, 10)
  else if hadR r e ≠ 0 then (r, hadR r e)
  else if (r.s.log.length : Int) = 64 then (r, 33)
  else (sayR (putR r [{ e with view := r.s.view }]) ⟨1, 0, 0, 0, (r.s.log.length : Int) + 1, r.s.commit, 0, [{ e with view := r.s.view }]⟩, 0)
def tickR (r : Rp) : Rp :=
  if roleR r = 1 then sayR r ⟨3, 0, 0, 0, r.s.log.length, r.s.commit, 0, []⟩
  else if r.tm ≤ r.quiet + 1 ∧ r.s.view < 1099511627776 then beginR { r with quiet := r.quiet + 1 } (r.s.view + 1)
  else { r with quiet := r.quiet + 1 }
/-- Commit up to a number, at most the length. -/
def raiseR (r : Rp) (c : Int) : Rp := { r with s := { r.s with commit := max r.s.commit (min c (r.s.log.length : Int)) } }
def follow1R (r : Rp) (m : Msg) : Rp := { (if r.s.view < m.view then enterR r m.view else r) with quiet := 0 }
def follow2R (r : Rp) (m : Msg) : Rp := if r.ch = false ∧ m.kind = 1 ∧ m.op = (r.s.log.length : Int) + 1 then putR r m.log else r
def follow3R (r : Rp) (m : Msg) : Rp := if r.ch = true ∨ (r.s.log.length : Int) < m.op then sendR r m.src (msgOp 7 r.s.log.length) else r
def follow4R (r : Rp) (m : Msg) : Rp :=
  if r.ch = true then r
  else if (r.s.log.length : Int) < m.op then raiseR r m.commit
  else sendR (raiseR r m.commit) m.src (msgOp 2 r.s.log.length)
def followR (r : Rp) (m : Msg) : Rp :=
  if m.src ≠ primR r m.view then r else follow4R (follow3R (follow2R (follow1R r m) m) m) m
/-- How many acks there are of n, itself with them. -/
def ackN (l : List (Int × Int)) (n : Int) : Int := ((l.filter (fun p => decide (n ≤ p.2))).length : Int) + 1
/-- The greatest number up to n, above c, that more than half have. -/
def ackTo (r : Rp) (l : List (Int × Int)) : Nat → Int
  | 0 => r.s.commit
  | n + 1 => if r.s.commit < ((n + 1 : Nat) : Int) then (if halfR r ≤ ackN l ((n + 1 : Nat) : Int) then ((n + 1 : Nat) : Int) else ackTo r l n) else r.s.commit
def acksR (r : Rp) (m : Msg) : List (Int × Int) := ups m.src (max ((look m.src r.acks).getD 0) (min m.op (r.s.log.length : Int))) r.acks
def ackR (r : Rp) (m : Msg) : Rp :=
  if m.view ≠ r.s.view ∨ roleR r ≠ 1 then r
  else { r with acks := acksR r m, s := { r.s with commit := ackTo r (acksR r m) r.s.log.length } }
def turn2R (r : Rp) (m : Msg) : Rp :=
  if m.kind = 4 ∧ r.ch = true then seeR { r with starts := ups m.src true r.starts }
  else if m.kind = 5 ∧ r.ch = true then decideR { r with chgs := ups m.src m r.chgs }
  else if m.kind = 5 then sendR r m.src (toldR r 6)
  else r
def turnR (r : Rp) (m : Msg) : Rp :=
  if m.kind = 5 ∧ primR r m.view ≠ r.id then r
  else turn2R (if r.s.view < m.view then beginR r m.view else r) m
def extendsR (r : Rp) (l : List Entry) : Bool := decide (r.s.log.length < l.length) && decide (l.take r.s.log.length = r.s.log)
def newerR (r : Rp) (m : Msg) : Bool := decide (r.s.view < m.view) || r.ch
def heardR (r : Rp) (m : Msg) : Rp :=
  if m.kind = 1 ∨ m.kind = 3 then followR r m
  else if m.kind = 2 then ackR r m
  else if m.kind = 4 ∨ m.kind = 5 then turnR r m
  else if m.kind = 6 then (if m.src = primR r m.view ∧ newerR r m = true then takeR r m else r)
  else if m.kind = 7 then (if m.view = r.s.view ∧ r.ch = false then sendR r m.src (toldR r 8) else r)
  else if m.kind = 8 then (if primR r m.view ≠ r.id ∧ (newerR r m = true ∨ extendsR r m.log = true) then takeR r m else r)
  else r
def meantR (r : Rp) (m : Msg) : Bool := msgR m && decide (m.dst = r.id ∧ m.src ≠ r.id ∧ m.src < r.n)
def deliverR (r : Rp) (m : Msg) : Rp × Int :=
  if meantR r m = false then (r, 10) else if m.view < r.s.view then (r, 0) else (heardR r m, 0)
theorem msgR_num {m : Msg} (h : msgR m = true) : (1 ≤ m.kind ∧ m.kind ≤ 8) ∧ (0 ≤ m.view ∧ m.view ≤ 1099511627776) ∧ (0 ≤ m.normal ∧ m.normal ≤ 1099511627776) ∧ (0 ≤ m.src ∧ m.src ≤ 6) ∧ (0 ≤ m.dst ∧ m.dst ≤ 6) ∧ (0 ≤ m.op ∧ m.op ≤ 64) ∧ (0 ≤ m.commit ∧ m.commit ≤ 64) := by
  unfold msgR inR numR at h
  simp only [Bool.and_eq_true, decide_eq_true_eq] at h
  omega
theorem msgR_log {m : Msg} (h : msgR m = true) : m.log.length ≤ 64 ∧ (∀ e ∈ m.log, entryR e = true) ∧ (m.kind = 1 → m.log.length = 1) ∧ (m.kind ≠ 1 → ¬ (m.kind = 5 ∨ m.kind = 6 ∨ m.kind = 8) → m.log.length = 0) := by
  unfold msgR logR at h
  rw [Bool.and_eq_true] at h
  have h2 := h.2
  split at h2
  · simp only [Bool.and_eq_true, decide_eq_true_eq, List.all_eq_true] at h2
    exact ⟨by omega, h2.2, fun _ => by omega, fun q => absurd ‹_› q⟩
  · split at h2
    · simp only [Bool.and_eq_true, decide_eq_true_eq, List.all_eq_true] at h2
      exact ⟨by omega, h2.2, fun q => absurd q ‹_›, fun _ q => absurd ‹_› q⟩
    · have h3 := of_decide_eq_true h2
      exact ⟨by omega, fun e he => (by rw [List.eq_nil_of_length_eq_zero h3] at he; cases he), fun q => absurd q ‹_›, fun _ _ => h3⟩
/-- What is always so. -/
structure RpOk (r : Rp) : Prop where
  cfg : (r.n = 3 ∨ r.n = 5 ∨ r.n = 7) ∧ 0 ≤ r.id ∧ r.id < r.n ∧ 2 ≤ r.tm ∧ r.tm ≤ 100
  st : stR r.s = true
  ch : r.ch = decide (r.s.normal ≠ r.s.view)
  acks : ∀ p ∈ r.acks, 0 ≤ p.1 ∧ p.1 < r.n ∧ 0 ≤ p.2 ∧ p.2 ≤ 64
  starts : ∀ p ∈ r.starts, 0 ≤ p.1 ∧ p.1 < r.n
  chgs : ∀ p ∈ r.chgs, 0 ≤ p.1 ∧ p.1 < r.n ∧ msgR p.2 = true
  nod : (r.acks.map (·.1)).Nodup ∧ (r.starts.map (·.1)).Nodup ∧ (r.chgs.map (·.1)).Nodup
end Go.Proofs.Ytaldoajdhbndhaa.Pa


/- Maps keyed by whole numbers, with elements of any kind: what one holds, as a list of pairs in the order in which the keys came; the steps that make, read, write, clear and range one. -/

namespace Go.Proofs.Ytaldoajdhbndhaa.Pa

set_option linter.unusedVariables false

set_option linter.unusedSimpArgs false

open Go.RowKit Go.Proofs.Ytaldoajdhbndhaa.C

open Go.MapKept Go.ChangeMaps

/-- Block b is a map with these pairs. -/
def IM (w : World) (b : Nat) (L : List (Int × Value)) : Prop :=
  ∃ es clock, w.heap[b]? = some (.map es clock) ∧ Stamped es clock ∧ es.toList.map (fun x => (x.key, x.val)) = L.map (fun p => (Value.int .i64 p.1, p.2)) ∧ (∀ p ∈ L, (Lit.int .i64 p.1).wf = true) ∧ L.length ≤ 1000000
theorem IM.lt {w : World} {b : Nat} {L : List (Int × Value)} (h : IM w b L) : b < w.heap.size := by
  obtain ⟨_, _, hb, _⟩ := h
  exact lt_of_blk hb
theorem IM.chg {w w' : World} {b : Nat} {L : List (Int × Value)} {S : Nat → Prop} (h : IM w b L) (hc : Chg S w w') (hn : ¬ S b) : IM w' b L := by
  obtain ⟨es, cl, hb, r⟩ := h
  exact ⟨es, cl, hc.blk hb hn, r⟩
theorem IM.ne {w : World} {b : Nat} {L : List (Int × Value)} (h : IM w b L) {g t : Nat} {cs : Array Value} {m : Nat × Nat} (hg : w.heap[g]? = some (.cells cs t m)) : b ≠ g := by
  obtain ⟨_, _, hb, _⟩ := h
  rintro rfl
  rw [hb] at hg
  cases hg
theorem IM.made (w : World) : IM (w.alloc (.map #[] 0)) w.heap.size [] := ⟨#[], 0, blk_new w _, stamped_empty 0, rfl, by simp, by simp⟩
theorem chg_block {w : World} {b : Nat} {es : Array MapEntry} {clock : Nat} (hb : w.heap[b]? = some (.map es clock)) (o : Obj) : Chg (fun k => k = b) w (setBlock w b o) :=
  ⟨rfl, rfl, rfl, by simp [setBlock], fun k _ hn => heap_setBlock_other hb o hn⟩
section

variable {P : Program} {t k e : TypeId}
theorem im_find {w : World} {b : Nat} {L : List (Int × Value)} {es : Array MapEntry} {cl : Nat} (hk : P.underlying k = some (.int .i64)) (hs : Stamped es cl) (he : es.toList.map (fun x => (x.key, x.val)) = L.map (fun p => (Value.int .i64 p.1, p.2))) (hw : ∀ p ∈ L, (Lit.int .i64 p.1).wf = true) {i : Int} (hi : (Lit.int .i64 i).wf = true) :
    ((Instr.findKey k (.int .i64 i) es.toList).run P w = .ok none w ∧ look i L = none ∧ ∀ x ∈ es.toList, x.key ≠ .int .i64 i) ∨ ∃ j x, (Instr.findKey k (.int .i64 i) es.toList).run P w = .ok (some (j, x.val)) w ∧ es.toList[j]? = some x ∧ x.key = .int .i64 i ∧ look i L = some x.val ∧ j < L.length ∧ (∀ q, L[j]? = some q → q.1 = i) ∧ ∀ l, l < j → ∀ q, L[l]? = some q → q.1 ≠ i := by
  have K := Go.Maps.int_keyed hk
  have hkey : keyOf P k (.int .i64 i) = some (.int .i64 i) := Go.Maps.keyOf_int_mk hk hi
  have hall : ∀ x ∈ es.toList, ∃ l, keyOf P k x.key = some l := fun x hx => by
    have : (x.key, x.val) ∈ es.toList.map (fun x => (x.key, x.val)) := List.mem_map_of_mem hx
    rw [he] at this
    obtain ⟨p, hp, h1⟩ := List.mem_map.1 this
    injection h1 with h1 _
    exact ⟨_, h1 ▸ Go.Maps.keyOf_int_mk hk (hw p hp)⟩
  have hat : ∀ j : Nat, (es.toList[j]?).map (fun x => (x.key, x.val)) = (L[j]?).map (fun p => (Value.int .i64 p.1, p.2)) := fun j => by rw [← List.getElem?_map, ← List.getElem?_map, he]
  rcases K.find w hkey es.toList hall with ⟨h1, h2⟩ | ⟨j, x, h1, h2, h3⟩
  · refine .inl ⟨h1, ?_, h2⟩
    unfold look
    rw [List.find?_eq_none.2 (fun p hp => ?_)]; rfl
    simp only [decide_eq_true_eq]
    intro e1
    have : (Value.int .i64 p.1, p.2) ∈ L.map (fun p => (Value.int .i64 p.1, p.2)) := List.mem_map_of_mem hp
    rw [← he] at this
    obtain ⟨x, hx, e2⟩ := List.mem_map.1 this
    injection e2 with e2 _
    exact h2 x hx (by rw [e2, e1])
  · have hj := hat j
    rw [h2] at hj
    cases hL : L[j]? with
    | none => rw [hL] at hj; cases hj
    | some q =>
      rw [hL] at hj
      simp only [Option.map_some, Option.some.injEq, Prod.mk.injEq] at hj
      have hq : q.1 = i := by have := hj.1.symm.trans h3; injection this
      have hjl : j < L.length := (List.getElem?_eq_some_iff.1 hL).1
      have hfirst : ∀ l, l < j → ∀ q', L[l]? = some q' → q'.1 ≠ i := fun l hl q' hq' e1 => by
        have hl2 := hat l
        rw [hq'] at hl2
        cases hx' : es.toList[l]? with
        | none => rw [hx'] at hl2; cases hl2
        | some x' =>
          rw [hx'] at hl2
          simp only [Option.map_some, Option.some.injEq, Prod.mk.injEq] at hl2
          have hn := hs.2.2
          have e3 : (es.toList.map (·.key))[l]? = (es.toList.map (·.key))[j]? := by rw [List.getElem?_map, List.getElem?_map, hx', h2, Option.map_some, Option.map_some, hl2.1, h3, e1]
          have hle : l < (es.toList.map (·.key)).length := by rw [List.length_map]; exact (List.getElem?_eq_some_iff.1 hx').1
          have := (List.getElem?_inj hle hn).1 e3
          omega
      refine .inr ⟨j, x, h1, h2, h3, ?_, hjl, fun q' hq' => by rw [hL] at hq'; injection hq' with h; rw [← h]; exact hq, hfirst⟩
      unfold look
      have hf : L.find? (fun p => decide (p.1 = i)) = some q := by
        rw [List.find?_eq_some_iff_getElem]
        refine ⟨by simpa using hq, j, hjl, (List.getElem?_eq_some_iff.1 hL).2, fun l hl => ?_⟩
        have := hfirst l hl (L[l]) (List.getElem?_eq_getElem (by omega))
        simpa using this
      rw [hf, Option.map_some, hj.2]
/-- m[k], and v, ok := m[k]. -/
theorem IM.lookup (c : Bool) {w : World} {b : Nat} {L : List (Int × Value)} (h : IM w b L) (ht : P.underlying t = some (.map k e)) (hk : P.underlying k = some (.int .i64)) {z : Value} (hz : (zeroValue e).run P w = .ok z w) {i : Int} (hi : (Lit.int .i64 i).wf = true) :
    (Instr.lookup t (.map (some b)) (.int .i64 i) c).run P w = .ok (if c then .tuple #[(look i L).getD z, .bool (look i L).isSome] else (look i L).getD z) w := by
  obtain ⟨es, cl, hb, hs, he, hw, hl⟩ := h
  have hc := (Go.Maps.int_keyed hk).check w (es.isEmpty) (Go.Maps.keyOf_int_mk hk hi)
  rcases im_find (w := w) (b := b) hk hs he hw hi with ⟨h1, h2, _⟩ | ⟨j, x, h1, h2, h3, h4, _⟩
  · simp [Instr.lookup, run_underlying ht, MapKept.run_getObj_map hb, hc, h1, h2, hz, Result.andThen]
  · simp [Instr.lookup, run_underlying ht, MapKept.run_getObj_map hb, hc, h1, h4, Result.andThen]
/-- m[k] = v. -/
theorem IM.update {w : World} {b : Nat} {L : List (Int × Value)} (h : IM w b L) (ht : P.underlying t = some (.map k e)) (hk : P.underlying k = some (.int .i64)) {i : Int} (hi : (Lit.int .i64 i).wf = true) (v : Value) (hl2 : L.length < 1000000) :
    ∃ w', (Instr.mapUpdate t (.map (some b)) (.int .i64 i) v).run P w = .ok () w' ∧ IM w' b (ups i v L) ∧ Chg (fun k => k = b) w w' := by
  obtain ⟨es, cl, hb, hs, he, hw, hl⟩ := h
  have K := Go.Maps.int_keyed hk
  have hkey := Go.Maps.keyOf_int_mk hk hi
  have hc := K.check w false hkey
  have hst := K.stays w hkey
  have hwf : ∀ p ∈ ups i v L, (Lit.int .i64 p.1).wf = true := fun p hp => by
    have h1 : p.1 ∈ (ups i v L).map (·.1) := List.mem_map_of_mem hp
    rw [ups_keys] at h1
    have h2 : p.1 ∈ L.map (·.1) ∨ p.1 = i := by
      split at h1
      · exact .inl h1
      · rw [List.mem_append, List.mem_singleton] at h1; exact h1
    rcases h2 with h2 | h2
    · obtain ⟨q, hq, e1⟩ := List.mem_map.1 h2
      rw [← e1]; exact hw q hq
    · rw [h2]; exact hi
  have hlen : (ups i v L).length ≤ 1000000 := by rw [ups_len]; split <;> omega
  rcases im_find (w := w) (b := b) hk hs he hw hi with ⟨h1, h2, h3⟩ | ⟨j, x, h1, h2, h3, h4, h5, h6, h7⟩
  · refine ⟨setBlock w b (.map (es.push ⟨.int .i64 i, v, cl⟩) (cl + 1)), ?_, ⟨_, _, heap_setBlock_same hb _, stamped_push hs h3, ?_, hwf, hlen⟩, chg_block hb _⟩
    · simp [Instr.mapUpdate, run_underlying ht, MapKept.run_getObj_map hb, hc, h1, MapKept.run_setObj_map _ hb, Result.andThen, setBlock]
    · rw [ups_none v h2, Array.toList_push, List.map_append, List.map_append, he]; rfl
  · have hj : es[j]? = some x := by simpa using h2
    have hlist : (es.modify j (fun e' => { e' with key := .int .i64 i, val := v })).toList = es.toList.set j { x with key := .int .i64 i, val := v } := by rw [Array.toList_modify, modify_eq_set _ _ _ _ h2]
    refine ⟨setBlock w b (.map (es.modify j (fun e' => { e' with key := .int .i64 i, val := v })) cl), ?_, ⟨_, _, heap_setBlock_same hb _, stamped_modify hs _ _ (fun _ _ => rfl) (fun e' _ he' => by rw [hj] at he'; cases he'; exact h3.symm), ?_, hwf, hlen⟩, chg_block hb _⟩
    · simp [Instr.mapUpdate, run_underlying ht, MapKept.run_getObj_map hb, hc, h1, hj, h3, hst, MapKept.run_setObj_map _ hb, Result.andThen, setBlock]
    · rw [hlist, ups_at v h5 h6 h7, List.map_set, List.map_set, he]
/-- clear(m). -/
theorem IM.clear {w : World} {b : Nat} {L : List (Int × Value)} (h : IM w b L) (ht : P.underlying t = some (.map k e)) (ty : TypeId) :
    ∃ w', (Builtin.clear_ #[t] ty #[.map (some b)]).run P w = .ok (.tuple #[]) w' ∧ IM w' b [] ∧ Chg (fun k => k = b) w w' := by
  obtain ⟨es, cl, hb, hs, he, hw, hl⟩ := h
  refine ⟨setBlock w b (.map #[] cl), ?_, ⟨_, _, heap_setBlock_same hb _, stamped_empty cl, rfl, by simp, by simp⟩, chg_block hb _⟩
  simp [Builtin.clear_, run_underlying ht, MapKept.run_getObj_map hb, MapKept.run_setObj_map _ hb, Result.andThen, setBlock]
/-- len(m). -/
theorem IM.len {w : World} {b : Nat} {L : List (Int × Value)} (h : IM w b L) (ht : P.underlying t = some (.map k e)) (ty : TypeId) :
    (Builtin.len_ #[t] ty #[.map (some b)]).run P w = .ok (.int .i64 L.length) w := by
  obtain ⟨es, cl, hb, hs, he, hw, hl⟩ := h
  have h1 : es.size = L.length := by have := congrArg List.length he; simpa using this
  simp [Builtin.len_, run_underlying ht, MapKept.run_getObj_map hb, Result.andThen, h1, goInt]
theorem perm_eraseIdx {α : Type} : ∀ {l : List α} {j : Nat} {p : α}, l[j]? = some p → l.Perm (p :: l.eraseIdx j)
  | [], _, _, h => by cases h
  | x :: l, 0, p, h => by simp at h; subst h; rw [List.eraseIdx_cons_zero]
  | x :: l, j + 1, p, h => by
    rw [List.eraseIdx_cons_succ]
    exact ((perm_eraseIdx (by simpa using h)).cons x).trans (List.Perm.swap p x _)
/-- An iterator over m, with what it has still to hand out. -/
def IMit (w : World) (b r : Nat) (L left : List (Int × Value)) : Prop :=
  ∃ es clock since seen c, w.heap[b]? = some (.map es clock) ∧ Stamped es clock ∧ es.toList.map (fun x => (x.key, x.val)) = L.map (fun p => (Value.int .i64 p.1, p.2)) ∧ w.heap[r]? = some (.mapIter (some b) since seen c) ∧ (∀ x ∈ es.toList, x.born < since) ∧ (since ≤ c ∧ since ≤ clock) ∧ (Go.leftOf es seen).toList.map (fun x => (x.key, x.val)) = left.map (fun p => (Value.int .i64 p.1, p.2))
theorem IMit.chg {w w' : World} {b r : Nat} {L left : List (Int × Value)} {S : Nat → Prop} (h : IMit w b r L left) (hc : Chg S w w') (hn : ¬ S b) (hn2 : ¬ S r) : IMit w' b r L left := by
  obtain ⟨es, clock, since, seen, c, h1, h2, h3, h4, h5⟩ := h
  exact ⟨es, clock, since, seen, c, hc.blk h1 hn, h2, h3, hc.blk h4 hn2, h5⟩
theorem IM.range {w : World} {b : Nat} {L : List (Int × Value)} (h : IM w b L) (ht : P.underlying t = some (.map k e)) :
    ∃ w', (Instr.range t (.map (some b))).run P w = .ok (.pointer (some ⟨w.heap.size, 0, none⟩)) w' ∧ IMit w' b w.heap.size L L ∧ Chg (fun _ => False) w w' := by
  obtain ⟨es, cl, hb, hs, he, hw, hl⟩ := h
  refine ⟨_, Go.run_range_map w t k e b es cl ht hb, ⟨es, cl, cl, #[], cl, ?_, hs, he, blk_new w _, hs.1, ⟨Nat.le_refl _, Nat.le_refl _⟩, ?_⟩, (Chg.refl _ w).alloc _⟩
  · exact blk_alloc hb _
  · have : Go.leftOf es #[] = es := by unfold Go.leftOf; exact Array.filter_eq_self.2 (fun x hx => by simp)
    rw [this, he]
theorem IMit.next {w : World} {b r : Nat} {L left : List (Int × Value)} (h : IMit w b r L left) (ty : TypeId) :
    (left = [] ∧ (Instr.next (.pointer (some ⟨r, 0, none⟩)) false ty).run P w = .ok (.tuple #[.bool false]) w) ∨
    ∃ p left' w', left.Perm (p :: left') ∧ (Instr.next (.pointer (some ⟨r, 0, none⟩)) false ty).run P w = .ok (.tuple #[.bool true, .int .i64 p.1, p.2]) w' ∧ IMit w' b r L left' ∧ Chg (fun k => k = r) w w' ∧ (Instr.entry (.pointer (some ⟨r, 0, none⟩))).run P w' = .ok (.tuple #[.int .i64 p.1, p.2]) w' := by
  obtain ⟨es, cl, since, seen, c, hb, hs, he, hr, hold, hsc, hleft⟩ := h
  have hne : b ≠ r := fun e1 => by rw [e1, hr] at hb; cases hb
  rcases Go.run_next_at (P := P) w ty r b since c seen es cl hr hb hold hsc.1 with ⟨h1, h2⟩ | ⟨x, hx, w1, hw1, hrun⟩
  · refine .inl ⟨?_, h2⟩
    have : (left.map (fun p => (Value.int .i64 p.1, p.2))).length = 0 := by rw [← hleft]; simpa using h1
    simpa using this
  · right
    have hx2 := Go.mem_left hx
    have hxp : (x.key, x.val) ∈ left.map (fun p => (Value.int .i64 p.1, p.2)) := by rw [← hleft]; exact List.mem_map_of_mem hx
    obtain ⟨j, hj⟩ := List.mem_iff_getElem?.1 hx
    have hjl : (left[j]?).map (fun p => (Value.int .i64 p.1, p.2)) = some (x.key, x.val) := by
      rw [← List.getElem?_map, ← hleft, List.getElem?_map, hj]; rfl
    cases hq : left[j]? with
    | none => rw [hq] at hjl; cases hjl
    | some p =>
      rw [hq] at hjl
      simp only [Option.map_some, Option.some.injEq, Prod.mk.injEq] at hjl
      have hb1 : w1.heap = w.heap := by rcases hw1 with rfl | rfl <;> rfl
      have hbo := hs.2.1
      have hsub : ((Go.leftOf es seen).toList.map (·.born)).Nodup := by
        unfold Go.leftOf
        rw [Array.toList_filter]
        exact List.Nodup.sublist (List.Sublist.map _ List.filter_sublist) hbo
      have hers : (Go.leftOf es (seen.push x.born)).toList = (Go.leftOf es seen).toList.eraseIdx j := by
        have e1 : (Go.leftOf es (seen.push x.born)).toList = (Go.leftOf es seen).toList.filter (fun y => decide (y.born ≠ x.born)) := by
          unfold Go.leftOf
          rw [Array.toList_filter, Array.toList_filter, List.filter_filter]
          refine List.filter_congr (fun y _ => ?_)
          rw [Go.contains_push]
          cases seen.contains y.born <;> by_cases hyx : y.born = x.born <;> simp [hyx]
        rw [e1]
        generalize (Go.leftOf es seen).toList = M at hj hsub ⊢
        clear e1 hleft hx hxp hx2 hrun hjl hq
        induction M generalizing j with
        | nil => cases hj
        | cons y M ih =>
          simp only [List.map_cons, List.nodup_cons] at hsub
          cases j with
          | zero =>
            simp only [List.getElem?_cons_zero, Option.some.injEq] at hj
            subst hj
            rw [List.filter_cons, if_neg (by simp), List.eraseIdx_cons_zero]
            refine List.filter_eq_self.2 (fun z hz => ?_)
            simp only [decide_eq_true_eq]
            intro e2
            exact hsub.1 (by rw [← e2]; exact List.mem_map_of_mem hz)
          | succ j =>
            simp only [List.getElem?_cons_succ] at hj
            have hyx : y.born ≠ x.born := fun e2 => hsub.1 (by rw [e2]; exact List.mem_map_of_mem (List.mem_of_getElem? hj))
            rw [List.filter_cons, if_pos (by simpa using hyx), List.eraseIdx_cons_succ]
            congr 1
            exact ih j hj hsub.2
      have hr1 : w1.heap[r]? = some (.mapIter (some b) since seen c) := by rw [hb1]; exact hr
      have hlt : r < w1.heap.size := lt_of_blk hr1
      refine ⟨p, left.eraseIdx j, setBlock w1 r (.mapIter (some b) since (seen.push x.born) cl), (perm_eraseIdx hq), ?_, ⟨es, cl, since, seen.push x.born, cl, ?_, hs, he, ?_, hold, ⟨hsc.2, hsc.2⟩, ?_⟩, ?_, ?_⟩
      · rw [hrun, hjl.1, hjl.2]
      · simp only [setBlock, Array.getElem?_setIfInBounds]
        rw [if_neg (Ne.symm hne), hb1]; exact hb
      · simp only [setBlock, Array.getElem?_setIfInBounds]
        simp [hlt]
      · rw [hers, map_eraseIdx, map_eraseIdx, hleft]
      · refine ⟨?_, ?_, ?_, ?_, ?_⟩
        · rcases hw1 with rfl | rfl <;> rfl
        · rcases hw1 with rfl | rfl <;> rfl
        · rcases hw1 with rfl | rfl <;> rfl
        · simp [setBlock, hb1]
        · intro k hk hn
          simp only [setBlock, Array.getElem?_setIfInBounds]
          rw [if_neg (fun e1 => hn e1.symm), hb1]
      · rw [hjl.1, hjl.2]
        refine Go.run_entry_at _ r b since seen es cl x ?_ ?_ hx2.1 hs.2.1
        · simp only [setBlock, Array.getElem?_setIfInBounds]
          simp [hlt]
        · simp only [setBlock, Array.getElem?_setIfInBounds]
          rw [if_neg (Ne.symm hne), hb1]; exact hb
end

section

variable {P : Program} {ops : Array Oper} {rest : List Oper} {o : Oper} {a : Act} {Q : Exit → Act → World → Prop}

end

end Go.Proofs.Ytaldoajdhbndhaa.Pa


/- Laws of the plain replica: what stays right. -/

namespace Go.Proofs.Ytaldoajdhbndhaa.Pa

set_option linter.unusedVariables false

set_option linter.unusedSimpArgs false
theorem look_mem {α : Type} {k : Int} {v : α} : ∀ {L : List (Int × α)}, look k L = some v → (k, v) ∈ L
  | [], h => by cases h
  | p :: L, h => by
    rw [look_cons] at h
    split at h
    · rename_i e
      injection h with h
      subst e; subst h
      exact List.mem_cons_self
    · exact List.mem_cons_of_mem _ (look_mem h)
theorem mem_ups {α : Type} {k : Int} {v : α} : ∀ {L : List (Int × α)} {p : Int × α}, p ∈ ups k v L → p = (k, v) ∨ p ∈ L
  | [], p, h => by rw [ups, List.mem_singleton] at h; exact .inl h
  | q :: L, p, h => by
    rw [ups] at h
    split at h
    · rcases List.mem_cons.1 h with h | h
      · exact .inl h
      · exact .inr (List.mem_cons_of_mem _ h)
    · rcases List.mem_cons.1 h with h | h
      · exact .inr (by rw [h]; exact List.mem_cons_self)
      · rcases mem_ups h with h | h
        · exact .inl h
        · exact .inr (List.mem_cons_of_mem _ h)
theorem fitsR_iff {r : Rp} {l : List Entry} : fitsR r l = true ↔ r.s.commit ≤ (l.length : Int) ∧ l.take r.s.commit.toNat = r.s.log.take r.s.commit.toNat := by
  unfold fitsR
  rw [Bool.and_eq_true, decide_eq_true_eq, decide_eq_true_eq]
/-- What is so of the best log of a change, whatever was heard. -/
structure BestOk (r : Rp) (b : Best) : Prop where
  len : b.log.length ≤ 64
  right : ∀ e ∈ b.log, entryR e = true
  done : r.s.commit ≤ b.done ∧ b.done ≤ 64
  fits : fitsR r b.log = true
theorem best_ok {r : Rp} (h : RpOk r) : ∀ k, BestOk r (bestTo r k)
  | 0 => by
    have h1 := stR_iff.1 h.st
    exact ⟨by have := h1.1; show r.s.log.length ≤ 64; omega, h1.2, ⟨Int.le_refl _, by have := h1.1; show r.s.commit ≤ 64; omega⟩, fitsR_iff.2 ⟨by have := h1.1; show r.s.commit ≤ (r.s.log.length : Int); omega, rfl⟩⟩
  | k + 1 => by
    have ih := best_ok h k
    rw [bestTo, bestStep]
    split
    · exact ih
    · rename_i m hm
      have hmr : msgR m = true := (h.chgs _ (look_mem hm)).2.2
      have h1 := msgR_num hmr
      have h2 := msgR_log hmr
      split
      · rename_i hf
        refine ⟨?_, ?_, ?_, ?_⟩
        · show (if better _ m then m.log else _).length ≤ 64
          split
          · exact h2.1
          · exact ih.len
        · intro e he
          have he : e ∈ (if better (bestTo r k) m then m.log else (bestTo r k).log) := he
          split at he
          · exact h2.2.1 e he
          · exact ih.right e he
        · have := ih.done
          show r.s.commit ≤ max _ _ ∧ max _ _ ≤ 64
          omega
        · show fitsR r (if better _ m then m.log else _) = true
          split
          · exact hf
          · exact ih.fits
      · exact ih

/-! ### What is right stays right -/
theorem nodup_bound : ∀ (N : Nat) (l : List Int), l.Nodup → (∀ x ∈ l, 0 ≤ x ∧ x < (N : Int)) → l.length ≤ N
  | 0, l, _, h => by
    cases l with
    | nil => exact Nat.le_refl _
    | cons a l => have := h a List.mem_cons_self; omega
  | N + 1, l, hn, h => by
    by_cases hm : (N : Int) ∈ l
    · obtain ⟨s, t, rfl⟩ := List.append_of_mem hm
      have hp : (s ++ (N : Int) :: t).Perm ((N : Int) :: (s ++ t)) := List.perm_middle
      have hn2 := hp.nodup_iff.1 hn
      rw [List.nodup_cons] at hn2
      have ih := nodup_bound N (s ++ t) hn2.2 (fun x hx => by
        have h1 := h x (hp.mem_iff.2 (List.mem_cons_of_mem _ hx))
        have h2 : x ≠ (N : Int) := fun e => hn2.1 (e ▸ hx)
        omega)
      have := hp.length_eq
      simp only [List.length_cons] at this
      omega
    · have ih := nodup_bound N l hn (fun x hx => by
        have h1 := h x hx
        have h2 : x ≠ (N : Int) := fun e => hm (e ▸ hx)
        omega)
      omega
theorem ups_nodup {α : Type} {k : Int} {v : α} {L : List (Int × α)} (h : (L.map (·.1)).Nodup) : ((ups k v L).map (·.1)).Nodup := by
  rw [ups_keys]
  split
  · exact h
  · rename_i hk
    rw [List.nodup_append]
    refine ⟨h, by simp, fun a ha b hb e => hk ?_⟩
    rw [List.mem_singleton] at hb
    rw [← hb, ← e]; exact ha
theorem RpOk.lens {r : Rp} (h : RpOk r) : r.acks.length ≤ 7 ∧ r.starts.length ≤ 7 ∧ r.chgs.length ≤ 7 := by
  have hn : r.n ≤ 7 := by have := h.cfg; omega
  refine ⟨?_, ?_, ?_⟩
  · have := nodup_bound 7 _ h.nod.1 (fun x hx => by obtain ⟨p, hp, rfl⟩ := List.mem_map.1 hx; have := h.acks p hp; omega)
    simpa using this
  · have := nodup_bound 7 _ h.nod.2.1 (fun x hx => by obtain ⟨p, hp, rfl⟩ := List.mem_map.1 hx; have := h.starts p hp; omega)
    simpa using this
  · have := nodup_bound 7 _ h.nod.2.2 (fun x hx => by obtain ⟨p, hp, rfl⟩ := List.mem_map.1 hx; have := h.chgs p hp; omega)
    simpa using this
theorem RpOk.out {r : Rp} (h : RpOk r) (o : List Msg) : RpOk { r with out := o } := ⟨h.cfg, h.st, h.ch, h.acks, h.starts, h.chgs, h.nod⟩
theorem RpOk.sd {r : Rp} (h : RpOk r) (b : Bool) : RpOk { r with said := b } := ⟨h.cfg, h.st, h.ch, h.acks, h.starts, h.chgs, h.nod⟩
theorem RpOk.qt {r : Rp} (h : RpOk r) (q : Int) : RpOk { r with quiet := q } := ⟨h.cfg, h.st, h.ch, h.acks, h.starts, h.chgs, h.nod⟩
theorem RpOk.say {r : Rp} (h : RpOk r) (m : Msg) : RpOk (sayR r m) := by
  obtain ⟨l, e, _⟩ := sayTo_same r m r.n.toNat
  unfold sayR
  rw [e]
  exact h.out _
theorem RpOk.send {r : Rp} (h : RpOk r) (y : Int) (m : Msg) : RpOk (sendR r y m) := h.out _
/-- Another state, and nothing of a view. -/
theorem RpOk.forget {r : Rp} {s : St} {ch : Bool} (h : RpOk r) (hs : stR s = true) (hch : ch = decide (s.normal ≠ s.view)) : RpOk (forgetR { r with s := s, ch := ch }) :=
  ⟨h.cfg, hs, hch, fun p hp => (by cases hp), fun p hp => (by cases hp), fun p hp => (by cases hp), List.nodup_nil, List.nodup_nil, List.nodup_nil⟩
/-- Another log and Commit. -/
theorem RpOk.state {r : Rp} {s : St} (h : RpOk r) (hs : stR s = true) (hv : s.view = r.s.view ∧ s.normal = r.s.normal) : RpOk { r with s := s } :=
  ⟨h.cfg, hs, by show r.ch = decide (s.normal ≠ s.view); rw [hv.1, hv.2]; exact h.ch, h.acks, h.starts, h.chgs, h.nod⟩
theorem RpOk.enter {r : Rp} (h : RpOk r) {v : Int} (hv : r.s.view < v ∧ v ≤ 1099511627776) : RpOk (enterR r v) := by
  have h1 := stR_iff.1 h.st
  refine h.forget (s := { r.s with view := v }) (ch := true) (stR_iff.2 ⟨?_, h1.2⟩) ?_
  · have := h1.1
    show 0 ≤ v ∧ v ≤ _ ∧ 0 ≤ r.s.normal ∧ r.s.normal ≤ v ∧ (r.s.log.length : Int) ≤ 64 ∧ 0 ≤ r.s.commit ∧ r.s.commit ≤ (r.s.log.length : Int) ∧ 0 ≤ r.s.active ∧ r.s.active ≤ 64
    omega
  · have := h1.1
    show true = decide (r.s.normal ≠ v)
    rw [eq_comm, decide_eq_true_eq]
    omega
theorem RpOk.start {r : Rp} (h : RpOk r) {k : Int} (hk : 0 ≤ k ∧ k < r.n) (v : Bool) : RpOk { r with starts := ups k v r.starts } :=
  ⟨h.cfg, h.st, h.ch, h.acks, fun p hp => (by rcases mem_ups hp with e | e; rw [e]; exact hk; exact h.starts p e), h.chgs, h.nod.1, ups_nodup h.nod.2.1, h.nod.2.2⟩
theorem RpOk.change {r : Rp} (h : RpOk r) {k : Int} (hk : 0 ≤ k ∧ k < r.n) {m : Msg} (hm : msgR m = true) : RpOk { r with chgs := ups k m r.chgs } :=
  ⟨h.cfg, h.st, h.ch, h.acks, h.starts, fun p hp => (by rcases mem_ups hp with e | e; rw [e]; exact ⟨hk.1, hk.2, hm⟩; exact h.chgs p e), h.nod.1, h.nod.2.1, ups_nodup h.nod.2.2⟩
theorem RpOk.begin_ {r : Rp} (h : RpOk r) {v : Int} (hv : r.s.view < v ∧ v ≤ 1099511627776) : RpOk (beginR r v) := ((h.enter hv).start ⟨h.cfg.2.1, h.cfg.2.2.1⟩ true).say _
theorem RpOk.stn {r : Rp} (h : RpOk r) : (0 ≤ r.s.view ∧ r.s.view ≤ 1099511627776) ∧ (0 ≤ r.s.normal ∧ r.s.normal ≤ r.s.view) ∧ r.s.log.length ≤ 64 ∧ (0 ≤ r.s.commit ∧ r.s.commit ≤ (r.s.log.length : Int)) ∧ (0 ≤ r.s.active ∧ r.s.active ≤ 64) ∧ ∀ e ∈ r.s.log, entryR e = true := by
  have h1 := stR_iff.1 h.st
  exact ⟨by omega, by omega, by omega, by omega, by omega, h1.2⟩
theorem RpOk.won {r : Rp} (h : RpOk r) (k : Nat) : RpOk (wonR r (bestTo r k)) := by
  have hb := best_ok h k
  have h1 := h.stn
  refine h.forget (stR_iff.2 ⟨?_, hb.right⟩) ?_
  · have h2 := hb.len
    have h3 := hb.done
    show 0 ≤ r.s.view ∧ r.s.view ≤ _ ∧ 0 ≤ r.s.view ∧ r.s.view ≤ r.s.view ∧ ((bestTo r k).log.length : Int) ≤ 64 ∧ 0 ≤ min (bestTo r k).done ((bestTo r k).log.length : Int) ∧ min (bestTo r k).done ((bestTo r k).log.length : Int) ≤ ((bestTo r k).log.length : Int) ∧ 0 ≤ r.s.active ∧ r.s.active ≤ 64
    omega
  · simp
theorem RpOk.decide_ {r : Rp} (h : RpOk r) : RpOk (decideR r) := by
  unfold decideR
  split
  · exact (h.won _).say _
  · exact h
theorem RpOk.see {r : Rp} (h : RpOk r) : RpOk (seeR r) := by
  unfold seeR
  split
  · split
    · exact (h.sd true).decide_
    · exact (h.sd true).send _ _
  · exact h
theorem RpOk.took {r : Rp} (h : RpOk r) {m : Msg} (hm : msgR m = true) (hf : fitsR r m.log = true) : RpOk (tookR r m) := by
  have h1 := h.stn
  have h2 := msgR_num hm
  have h3 := msgR_log hm
  have h4 := (fitsR_iff.1 hf).1
  refine h.forget (stR_iff.2 ⟨?_, h3.2.1⟩) ?_
  · show 0 ≤ m.view ∧ m.view ≤ _ ∧ 0 ≤ m.view ∧ m.view ≤ m.view ∧ (m.log.length : Int) ≤ 64 ∧ 0 ≤ max r.s.commit (min m.commit (m.log.length : Int)) ∧ max r.s.commit (min m.commit (m.log.length : Int)) ≤ (m.log.length : Int) ∧ 0 ≤ r.s.active ∧ r.s.active ≤ 64
    omega
  · simp
theorem RpOk.take {r : Rp} (h : RpOk r) {m : Msg} (hm : msgR m = true) : RpOk (takeR r m) := by
  unfold takeR
  split
  · rename_i hf
    exact (h.took hm hf).send _ _
  · exact h
theorem RpOk.put {r : Rp} (h : RpOk r) {l : List Entry} (hl : r.s.log.length + l.length ≤ 64) (hr : ∀ e ∈ l, entryR e = true) : RpOk (putR r l) := by
  have h1 := h.stn
  refine h.state (stR_iff.2 ⟨?_, fun e he => ?_⟩) ⟨rfl, rfl⟩
  · show 0 ≤ r.s.view ∧ r.s.view ≤ _ ∧ 0 ≤ r.s.normal ∧ r.s.normal ≤ r.s.view ∧ ((r.s.log ++ l).length : Int) ≤ 64 ∧ 0 ≤ r.s.commit ∧ r.s.commit ≤ ((r.s.log ++ l).length : Int) ∧ 0 ≤ r.s.active ∧ r.s.active ≤ 64
    rw [List.length_append]
    omega
  · rcases List.mem_append.1 he with he | he
    · exact h1.2.2.2.2.2 e he
    · exact hr e he
theorem RpOk.raise {r : Rp} (h : RpOk r) (c : Int) : RpOk (raiseR r c) := by
  have h1 := h.stn
  refine h.state (stR_iff.2 ⟨?_, h1.2.2.2.2.2⟩) ⟨rfl, rfl⟩
  show 0 ≤ r.s.view ∧ r.s.view ≤ _ ∧ 0 ≤ r.s.normal ∧ r.s.normal ≤ r.s.view ∧ (r.s.log.length : Int) ≤ 64 ∧ 0 ≤ max r.s.commit (min c (r.s.log.length : Int)) ∧ max r.s.commit (min c (r.s.log.length : Int)) ≤ (r.s.log.length : Int) ∧ 0 ≤ r.s.active ∧ r.s.active ≤ 64
  omega
theorem entryR_view {e : Entry} (h : entryR e = true) {v : Int} (hv : 0 ≤ v ∧ v ≤ 1099511627776) : entryR { e with view := v } = true := by
  unfold entryR at h ⊢
  simp only [Bool.and_eq_true] at h ⊢
  obtain ⟨⟨⟨⟨⟨⟨⟨⟨⟨⟨h1, h2⟩, h3⟩, h4⟩, h5⟩, h6⟩, h7⟩, h8⟩, h9⟩, h10⟩, h11⟩ := h
  exact ⟨⟨⟨⟨⟨⟨⟨⟨⟨⟨by unfold numR; rw [decide_eq_true_eq]; exact hv, h2⟩, h3⟩, h4⟩, h5⟩, h6⟩, h7⟩, h8⟩, h9⟩, h10⟩, h11⟩
theorem RpOk.submit {r : Rp} (h : RpOk r) (e : Entry) : RpOk (submitR r e).1 := by
  unfold submitR
  split
  · exact h
  · split
    · exact h
    · split
      · exact h
      · split
        · exact h
        · rename_i h1 h2 h3 h4
          refine RpOk.say (h.put ?_ (fun x hx => ?_)) _
          · have := h.stn; simp; omega
          · rw [List.mem_singleton] at hx
            rw [hx]
            exact entryR_view (by simpa using h2) h.stn.1
theorem RpOk.tick {r : Rp} (h : RpOk r) : RpOk (tickR r) := by
  unfold tickR
  split
  · exact h.say _
  · split
    · exact (h.qt _).begin_ (by have := h.stn; show r.s.view < r.s.view + 1 ∧ r.s.view + 1 ≤ _; omega)
    · exact h.qt _
theorem RpOk.follow1 {r : Rp} (h : RpOk r) {m : Msg} (hm : msgR m = true) : RpOk (follow1R r m) := by
  unfold follow1R
  split
  · exact (h.enter ⟨‹_›, (msgR_num hm).2.1.2⟩).qt 0
  · exact h.qt 0
theorem RpOk.follow2 {r : Rp} (h : RpOk r) {m : Msg} (hm : msgR m = true) : RpOk (follow2R r m) := by
  unfold follow2R
  split
  · rename_i hc
    have h1 := msgR_num hm
    have h2 := msgR_log hm
    exact h.put (by rw [h2.2.2.1 hc.2.1]; omega) h2.2.1
  · exact h
theorem RpOk.follow {r : Rp} (h : RpOk r) {m : Msg} (hm : msgR m = true) : RpOk (followR r m) := by
  unfold followR
  split
  · exact h
  · have h2 : RpOk (follow2R (follow1R r m) m) := (h.follow1 hm).follow2 hm
    have h3 : RpOk (follow3R (follow2R (follow1R r m) m) m) := by
      unfold follow3R
      split
      · exact h2.send _ _
      · exact h2
    unfold follow4R
    split
    · exact h3
    · split
      · exact h3.raise _
      · exact (h3.raise _).send _ _
theorem ackTo_le {r : Rp} (h : RpOk r) (l : List (Int × Int)) : ∀ n : Nat, n ≤ r.s.log.length → r.s.commit ≤ ackTo r l n ∧ ackTo r l n ≤ (r.s.log.length : Int)
  | 0, _ => ⟨Int.le_refl _, h.stn.2.2.2.1.2⟩
  | n + 1, hn => by
    rw [ackTo]
    split
    · split
      · omega
      · exact ackTo_le h l n (by omega)
    · exact ⟨Int.le_refl _, h.stn.2.2.2.1.2⟩
theorem RpOk.ack {r : Rp} (h : RpOk r) {m : Msg} (hm : msgR m = true) (hs : 0 ≤ m.src ∧ m.src < r.n) : RpOk (ackR r m) := by
  unfold ackR
  split
  · exact h
  · have h1 := h.stn
    have h2 := msgR_num hm
    have h3 := ackTo_le h (acksR r m) r.s.log.length (Nat.le_refl _)
    refine ⟨h.cfg, stR_iff.2 ⟨?_, h1.2.2.2.2.2⟩, h.ch, fun p hp => ?_, h.starts, h.chgs, ups_nodup h.nod.1, h.nod.2.1, h.nod.2.2⟩
    · show 0 ≤ r.s.view ∧ r.s.view ≤ _ ∧ 0 ≤ r.s.normal ∧ r.s.normal ≤ r.s.view ∧ (r.s.log.length : Int) ≤ 64 ∧ 0 ≤ ackTo r (acksR r m) r.s.log.length ∧ ackTo r (acksR r m) r.s.log.length ≤ (r.s.log.length : Int) ∧ 0 ≤ r.s.active ∧ r.s.active ≤ 64
      omega
    · rcases mem_ups hp with e | e
      · rw [e]
        refine ⟨hs.1, hs.2, ?_⟩
        show 0 ≤ max _ (min _ _) ∧ max _ (min _ _) ≤ 64
        have h5 : 0 ≤ (look m.src r.acks).getD 0 ∧ (look m.src r.acks).getD 0 ≤ 64 := by
          cases hl : look m.src r.acks with
          | none => exact ⟨Int.le_refl _, by decide⟩
          | some v => exact (h.acks _ (look_mem hl)).2.2
        omega
      · exact h.acks p e
theorem RpOk.turn {r : Rp} (h : RpOk r) {m : Msg} (hm : msgR m = true) (hs : 0 ≤ m.src ∧ m.src < r.n) : RpOk (turnR r m) := by
  have h2 : ∀ {q : Rp}, RpOk q → q.n = r.n → RpOk (turn2R q m) := fun {q} hq hn => by
    unfold turn2R
    split
    · exact (hq.start (by rw [hn]; exact hs) true).see
    · split
      · exact (hq.change (by rw [hn]; exact hs) hm).decide_
      · split
        · exact hq.send _ _
        · exact hq
  unfold turnR
  split
  · exact h
  · split
    · refine h2 (h.begin_ ⟨‹_›, (msgR_num hm).2.1.2⟩) ?_
      unfold beginR sayR
      obtain ⟨l, e, _⟩ := sayTo_same { enterR r m.view with starts := ups r.id true [] } (msgOp 4 0) (Rp.n { enterR r m.view with starts := ups r.id true [] }).toNat
      rw [e]
      rfl
    · exact h2 h rfl
theorem meantR_iff {r : Rp} {m : Msg} : meantR r m = true ↔ msgR m = true ∧ m.dst = r.id ∧ m.src ≠ r.id ∧ m.src < r.n := by
  unfold meantR
  rw [Bool.and_eq_true, decide_eq_true_eq]
theorem RpOk.heard {r : Rp} (h : RpOk r) {m : Msg} (hm : meantR r m = true) : RpOk (heardR r m) := by
  obtain ⟨h1, _, _, h3⟩ := meantR_iff.1 hm
  have hs : 0 ≤ m.src ∧ m.src < r.n := ⟨(msgR_num h1).2.2.2.1.1, h3⟩
  unfold heardR
  split
  · exact h.follow h1
  · split
    · exact h.ack h1 hs
    · split
      · exact h.turn h1 hs
      · split
        · split
          · exact h.take h1
          · exact h
        · split
          · split
            · exact h.send _ _
            · exact h
          · split
            · split
              · exact h.take h1
              · exact h
            · exact h
theorem RpOk.deliver {r : Rp} (h : RpOk r) (m : Msg) : RpOk (deliverR r m).1 := by
  unfold deliverR
  split
  · exact h
  · split
    · exact h
    · rename_i h1 _
      exact h.heard (by simpa using h1)
theorem RpOk.new {n id tm : Int} {s : St} (hc : cfgR n id tm = true) (hs : stR s = true) : RpOk (newR n id tm s) := by
  unfold cfgR at hc
  rw [decide_eq_true_eq] at hc
  exact ⟨hc, hs, rfl, fun p hp => (by cases hp), fun p hp => (by cases hp), fun p hp => (by cases hp), List.nodup_nil, List.nodup_nil, List.nodup_nil⟩
theorem sayR_eq (r : Rp) (m : Msg) (hn : r.n ≤ 7) : ∃ l, sayR r m = { r with out := r.out ++ l } ∧ l.length ≤ 7 := by
  obtain ⟨l, e, h⟩ := sayTo_same r m r.n.toNat
  exact ⟨l, e, by omega⟩
theorem RpOk.n7 {r : Rp} (h : RpOk r) : r.n ≤ 7 := by have := h.cfg; omega
theorem beginR_eq {r : Rp} (h : RpOk r) (v : Int) : ∃ l, beginR r v = { enterR r v with starts := ups r.id true [], out := r.out ++ l } ∧ l.length ≤ 7 := by
  obtain ⟨l, e, hl⟩ := sayR_eq { enterR r v with starts := ups r.id true [] } (msgOp 4 0) h.n7
  exact ⟨l, by unfold beginR; rw [e]; rfl, hl⟩
theorem prim_lt {r : Rp} (h : RpOk r) (v : Int) : 0 ≤ primR r v ∧ primR r v ≤ 6 := by
  have hc := h.cfg
  have h1 := Int.emod_lt_of_pos v (show 0 < r.n by omega)
  exact ⟨Int.emod_nonneg _ (by omega), by unfold primR; omega⟩
end Go.Proofs.Ytaldoajdhbndhaa.Pa


/- The contracts of slices.Clone, and of the replica's copied. -/

namespace Go.Proofs.Ytaldoajdhbndhaa.Pa

set_option linter.unusedVariables false

set_option linter.unusedSimpArgs false

open Go.RowKit Go.Proofs.Ytaldoajdhbndhaa.C

attribute [local go_sem] max2_int min2_int max_two min_two

/-- What Clone makes: a row of one's own in new memory; what the things point to lies where it lay. -/
def Cloned {α : Type} (d : Ty α) (E : TypeId) (R : Nat → Prop) (xs : List α) (n : Nat) (w : World) (e' : Ending) (w' : World) : Prop :=
  ∃ A' c', e' = .returned (.slice A' n c') ∧ Vec d E w' (fun k => w.heap.size ≤ k) (fun k => R k ∧ k < w.heap.size) (.slice A' n c') xs ∧ Chg (fun _ => False) w w'
theorem Vec.flat {α : Type} {d : Ty α} (hf : Flat d) {E : TypeId} {w : World} {S D : Nat → Prop} {v : Value} {xs : List α} (h : Vec d E w S D v xs) : Vec d E w S (fun _ => False) v xs := by
  obtain ⟨cells, h1, h2, h3⟩ := h
  exact ⟨cells, h1, h2, hf.row h3⟩
theorem flat_at {α : Type} {d : Ty α} (hf : Flat d) {E : TypeId} {w : World} {B : Nat} {D : Nat → Prop} {A : Option Addr} {n c : Nat} {xs : List α} (h : Vec d E w (fun k => B ≤ k) D (.slice A n c) xs) : Ty.At d w (fun k => B ≤ k ∧ k < w.heap.size) A n c xs :=
  (Vec.flat hf h).at.bound.mono (fun k hk => ⟨by rcases hk.1 with h | h; exact h; exact h.elim, hk.2⟩)
theorem vec_empty {α : Type} (d : Ty α) (E : TypeId) (w : World) (D : Nat → Prop) : Vec d E (w.alloc (.cells #[] E)) (fun k => k = w.heap.size) D (.slice (some ⟨w.heap.size, 0, none⟩) 0 0) [] :=
  ⟨[], World.ownsRow_lit (base := 0) (e := E) (size := d.sz) w #[] 0 (Nat.zero_le _) (by simp [maxLen]) (by simp), fun k hk => by simp [Value.ownBlock] at hk; exact hk.symm, Ty.Row.nil _ _ _⟩
set_option maxHeartbeats 4000000 in
set_option maxRecDepth 100000 in
theorem clone_rules {w : World} {R : Nat → Prop} {xs : List _} {A : Option Addr} {n c : Nat} (hl : Ty.At ruleK w R A n c xs) (hn : n ≤ 1000000) :
    Calls Try.prog 85 #[.slice A n c] w (Cloned ruleK 104 R xs n w) := by
  cases A with
  | none =>
    obtain ⟨h1, h2, _, h4, _⟩ := hl
    have := h4 rfl
    subst this
    obtain rfl : n = 0 := by omega
    have : xs = [] := List.eq_nil_of_length_eq_zero h1.symm
    subst this
    have e1 := fun w => run_eql_slice_nil (P := Try.prog) w 51 104 none 0 0 Try.underlying51
    clear h1 h2 h4
    go_enter Try.func85, Try.ntmps85
    go_wp2_with fail
    go_ret
    exact ⟨none, 0, rfl, Vec.nil _ _ _ _ _, Chg.refl _ _⟩
  | some a =>
    have e1 := fun w => run_eql_slice_nil (P := Try.prog) w 51 104 (some a) n c Try.underlying51
    have HL := hid hl.bound
    have HN := hid hn
    clear hl hn
    go_enter Try.func85, Try.ntmps85
    go_wp2_with (first | (at_builtin; obtain ⟨w1, hw1⟩ : ∃ q_, q_ = w.alloc (.cells #[] 104) := ⟨_, rfl⟩; rw [← hw1]; have C1 := hid (show Chg (fun _ => False) w w1 from (by rw [hw1]; exact (Chg.refl _ w).alloc _)); have V1 := hid (show Vec ruleK 104 w1 (fun k => w.heap.size ≤ k) (fun k => R k ∧ k < w.heap.size) (.slice (some ⟨w.heap.size, 0, none⟩) 0 0) [] from (by rw [hw1]; exact (vec_empty ruleK 104 w _).mono (fun k hk _ => Nat.le_of_eq hk.symm) (fun _ h _ => h))); have HL1 := hid (HL.out.chg C1.out (fun _ _ h => h)); clear hw1; refine vec_list (d := ruleK) _ rfl (.tmp 5) (.tmp 6) 51 104 (.agg #[.int .i64 0, .int .i64 0, .int .i64 0, .int .i64 0, .string ByteArray.empty]) 48 rfl Try.underlying51 infoRuleP rfl (by decide) (by decide) (.slice (some ⟨w.heap.size, 0, none⟩) 0 0) rfl V1.out (some a) n c (ys := xs) rfl (by simp) HL1.out.2.1 HL1.out.1 HL1.out.2.2.2.2.choose_spec.1 (HL1.out.2.2.2.2.choose_spec.2.mono (fun k hk => ⟨hk, by simp [Value.ownBlock]; have := hk.2; omega, Nat.lt_of_lt_of_le hk.2 C1.out.size⟩)) (by have := HN.out; simp; omega) ?_; rw [List.length_nil, Nat.zero_add, List.nil_append]; intro A' c' w2 h1 h2; have G1 := hid h1; have G2 := hid h2; clear h1 h2))
    go_ret
    exact ⟨A', c', rfl, G1.out.mono (fun k hk _ => by rcases hk with h | h; exact h; exact Nat.le_trans C1.out.size h) (fun _ h _ => h), C1.out.trans G2.out (fun j hj hl => by simp [Value.ownBlock] at hj; omega)⟩
set_option maxHeartbeats 4000000 in
set_option maxRecDepth 100000 in
theorem clone_nums {w : World} {R : Nat → Prop} {xs : List _} {A : Option Addr} {n c : Nat} (hl : Ty.At (Ty.int .i64) w R A n c xs) (hn : n ≤ 1000000) :
    Calls Try.prog 86 #[.slice A n c] w (Cloned (Ty.int .i64) 3 R xs n w) := by
  cases A with
  | none =>
    obtain ⟨h1, h2, _, h4, _⟩ := hl
    have := h4 rfl
    subst this
    obtain rfl : n = 0 := by omega
    have : xs = [] := List.eq_nil_of_length_eq_zero h1.symm
    subst this
    have e1 := fun w => run_eql_slice_nil (P := Try.prog) w 52 3 none 0 0 Try.underlying52
    clear h1 h2 h4
    go_enter Try.func86, Try.ntmps86
    go_wp2_with fail
    go_ret
    exact ⟨none, 0, rfl, Vec.nil _ _ _ _ _, Chg.refl _ _⟩
  | some a =>
    have e1 := fun w => run_eql_slice_nil (P := Try.prog) w 52 3 (some a) n c Try.underlying52
    have HL := hid hl.bound
    have HN := hid hn
    clear hl hn
    go_enter Try.func86, Try.ntmps86
    go_wp2_with (first | (at_builtin; obtain ⟨w1, hw1⟩ : ∃ q_, q_ = w.alloc (.cells #[] 3) := ⟨_, rfl⟩; rw [← hw1]; have C1 := hid (show Chg (fun _ => False) w w1 from (by rw [hw1]; exact (Chg.refl _ w).alloc _)); have V1 := hid (show Vec (Ty.int .i64) 3 w1 (fun k => w.heap.size ≤ k) (fun k => R k ∧ k < w.heap.size) (.slice (some ⟨w.heap.size, 0, none⟩) 0 0) [] from (by rw [hw1]; exact (vec_empty (Ty.int .i64) 3 w _).mono (fun k hk _ => Nat.le_of_eq hk.symm) (fun _ h _ => h))); have HL1 := hid (HL.out.chg C1.out (fun _ _ h => h)); clear hw1; refine vec_list (d := (Ty.int .i64)) _ rfl (.tmp 5) (.tmp 6) 52 3 (.int .i64 0) 8 rfl Try.underlying52 infoInt rfl (by decide) (by decide) (.slice (some ⟨w.heap.size, 0, none⟩) 0 0) rfl V1.out (some a) n c (ys := xs) rfl (by simp) HL1.out.2.1 HL1.out.1 HL1.out.2.2.2.2.choose_spec.1 (HL1.out.2.2.2.2.choose_spec.2.mono (fun k hk => ⟨hk, by simp [Value.ownBlock]; have := hk.2; omega, Nat.lt_of_lt_of_le hk.2 C1.out.size⟩)) (by have := HN.out; simp; omega) ?_; rw [List.length_nil, Nat.zero_add, List.nil_append]; intro A' c' w2 h1 h2; have G1 := hid h1; have G2 := hid h2; clear h1 h2))
    go_ret
    exact ⟨A', c', rfl, G1.out.mono (fun k hk _ => by rcases hk with h | h; exact h; exact Nat.le_trans C1.out.size h) (fun _ h _ => h), C1.out.trans G2.out (fun j hj hl => by simp [Value.ownBlock] at hj; omega)⟩
set_option maxHeartbeats 4000000 in
set_option maxRecDepth 100000 in
theorem clone_ents {w : World} {R : Nat → Prop} {xs : List _} {A : Option Addr} {n c : Nat} (hl : Ty.At entryK w R A n c xs) (hn : n ≤ 1000000) :
    Calls Try.prog 45 #[.slice A n c] w (Cloned entryK 56 R xs n w) := by
  cases A with
  | none =>
    obtain ⟨h1, h2, _, h4, _⟩ := hl
    have := h4 rfl
    subst this
    obtain rfl : n = 0 := by omega
    have : xs = [] := List.eq_nil_of_length_eq_zero h1.symm
    subst this
    have e1 := fun w => run_eql_slice_nil (P := Try.prog) w 24 56 none 0 0 Try.underlying24
    clear h1 h2 h4
    go_enter Try.func45, Try.ntmps45
    go_wp2_with fail
    go_ret
    exact ⟨none, 0, rfl, Vec.nil _ _ _ _ _, Chg.refl _ _⟩
  | some a =>
    have e1 := fun w => run_eql_slice_nil (P := Try.prog) w 24 56 (some a) n c Try.underlying24
    have HL := hid hl.bound
    have HN := hid hn
    clear hl hn
    go_enter Try.func45, Try.ntmps45
    go_wp2_with (first | (at_builtin; obtain ⟨w1, hw1⟩ : ∃ q_, q_ = w.alloc (.cells #[] 56) := ⟨_, rfl⟩; rw [← hw1]; have C1 := hid (show Chg (fun _ => False) w w1 from (by rw [hw1]; exact (Chg.refl _ w).alloc _)); have V1 := hid (show Vec entryK 56 w1 (fun k => w.heap.size ≤ k) (fun k => R k ∧ k < w.heap.size) (.slice (some ⟨w.heap.size, 0, none⟩) 0 0) [] from (by rw [hw1]; exact (vec_empty entryK 56 w _).mono (fun k hk _ => Nat.le_of_eq hk.symm) (fun _ h _ => h))); have HL1 := hid (HL.out.chg C1.out (fun _ _ h => h)); clear hw1; refine vec_list (d := entryK) _ rfl (.tmp 5) (.tmp 6) 24 56 (.agg #[.int .i64 0, .int .i64 0, .int .i64 0, .int .i64 0, .int .i64 0, .int .i64 0, .int .i64 0, .slice none 0 0, .slice none 0 0]) 104 rfl Try.underlying24 infoEntryP rfl (by decide) (by decide) (.slice (some ⟨w.heap.size, 0, none⟩) 0 0) rfl V1.out (some a) n c (ys := xs) rfl (by simp) HL1.out.2.1 HL1.out.1 HL1.out.2.2.2.2.choose_spec.1 (HL1.out.2.2.2.2.choose_spec.2.mono (fun k hk => ⟨hk, by simp [Value.ownBlock]; have := hk.2; omega, Nat.lt_of_lt_of_le hk.2 C1.out.size⟩)) (by have := HN.out; simp; omega) ?_; rw [List.length_nil, Nat.zero_add, List.nil_append]; intro A' c' w2 h1 h2; have G1 := hid h1; have G2 := hid h2; clear h1 h2))
    go_ret
    exact ⟨A', c', rfl, G1.out.mono (fun k hk _ => by rcases hk with h | h; exact h; exact Nat.le_trans C1.out.size h) (fun _ h _ => h), C1.out.trans G2.out (fun j hj hl => by simp [Value.ownBlock] at hj; omega)⟩
end Go.Proofs.Ytaldoajdhbndhaa.Pa
