
/- Kinds of values that come in: what a value's cells say, in memory that lies in S; and how the row's reading of an argument opens into them. -/

import Derived.Test.YtcmfgijdelaelaaCore

import Derived.ProofKit

import Derived.Deep.Slices

namespace Go.Proofs.Ytcmfgijdelaelaa.C

set_option linter.unusedVariables false

set_option linter.unusedSimpArgs false

open Go.RowKit

structure Ty (α : Type) where
  sz : Nat
  K : World → (Nat → Prop) → α → List Value → Prop
  len : ∀ {w S x cs}, K w S x cs → cs.length = sz
  one : ∀ {w S x cs}, K w S x cs → ∀ u ∈ cs, u.oneCell' = true
  chg : ∀ {w w' : World} {S M : Nat → Prop} {x cs}, K w S x cs → Chg M w w' → (∀ k, S k → ¬ M k) → K w' S x cs
  mono : ∀ {w : World} {S S' : Nat → Prop} {x cs}, K w S x cs → (∀ k, S k → S' k) → K w S' x cs
  bound : ∀ {w : World} {S : Nat → Prop} {x cs}, K w S x cs → K w (fun k => S k ∧ k < w.heap.size) x cs

namespace Ty
def int (k : IntKind) : Ty Int where
  sz := 1
  K := fun _ _ x cs => cs = [.int k x] ∧ (Lit.int k x).wf = true
  len := fun h => by rw [h.1]; rfl
  one := fun h u hu => by rw [h.1] at hu; rw [List.mem_singleton.1 hu]; rfl
  chg := fun h _ _ => h
  mono := fun h _ => h
  bound := fun h => h
def u8 : Ty UInt8 where
  sz := 1
  K := fun _ _ x cs => cs = [.int .u8 (x.toNat : Int)]
  len := fun h => by rw [h]; rfl
  one := fun h u hu => by rw [h] at hu; rw [List.mem_singleton.1 hu]; rfl
  chg := fun h _ _ => h
  mono := fun h _ => h
  bound := fun h => h
def bool : Ty Bool where
  sz := 1
  K := fun _ _ x cs => cs = [.bool x]
  len := fun h => by rw [h]; rfl
  one := fun h u hu => by rw [h] at hu; rw [List.mem_singleton.1 hu]; rfl
  chg := fun h _ _ => h
  mono := fun h _ => h
  bound := fun h => h
def str : Ty ByteArray where
  sz := 1
  K := fun _ _ x cs => cs = [.string x] ∧ x.size ≤ maxLen
  len := fun h => by rw [h.1]; rfl
  one := fun h u hu => by rw [h.1] at hu; rw [List.mem_singleton.1 hu]; rfl
  chg := fun h _ _ => h
  mono := fun h _ => h
  bound := fun h => h
/-- The cells of a row of elements. -/
def Row {α : Type} (d : Ty α) (w : World) (S : Nat → Prop) (xs : List α) (cells : List Value) : Prop :=
  cells.length = xs.length * d.sz ∧ ∀ i x, xs[i]? = some x → d.K w S x ((cells.drop (i * d.sz)).take d.sz)
theorem Row.nil {α : Type} (d : Ty α) (w : World) (S : Nat → Prop) : Row d w S [] [] := ⟨by simp, fun i x h => by simp at h⟩
theorem Row.chg {α : Type} {d : Ty α} {w w' : World} {S M : Nat → Prop} {xs : List α} {cells : List Value} (h : Row d w S xs cells) (hc : Chg M w w') (hd : ∀ k, S k → ¬ M k) : Row d w' S xs cells := ⟨h.1, fun i x hx => d.chg (h.2 i x hx) hc hd⟩
theorem Row.mono {α : Type} {d : Ty α} {w : World} {S S' : Nat → Prop} {xs : List α} {cells : List Value} (h : Row d w S xs cells) (hd : ∀ k, S k → S' k) : Row d w S' xs cells := ⟨h.1, fun i x hx => d.mono (h.2 i x hx) hd⟩
theorem Row.one {α : Type} {d : Ty α} {w : World} {S : Nat → Prop} {xs : List α} {cells : List Value} (h : Row d w S xs cells) : ∀ u ∈ cells, u.oneCell' = true := by
  intro u hu
  obtain ⟨j, hj, rfl⟩ := List.mem_iff_getElem.1 hu
  have hl := h.1
  have hs : 0 < d.sz := by
    rcases Nat.eq_zero_or_pos d.sz with h0 | h0
    · rw [h0] at hl; omega
    · exact h0
  have hd : j / d.sz < xs.length := by rw [Nat.div_lt_iff_lt_mul hs]; omega
  have hk := h.2 (j / d.sz) _ (List.getElem?_eq_getElem hd)
  refine d.one hk _ ?_
  refine List.mem_iff_getElem?.2 ⟨j % d.sz, ?_⟩
  rw [List.getElem?_take, if_pos (Nat.mod_lt _ hs), List.getElem?_drop]
  have : j / d.sz * d.sz + j % d.sz = j := Nat.div_add_mod' j d.sz
  rw [this]
  exact List.getElem?_eq_getElem hj
theorem Row.snoc {α : Type} {d : Ty α} {w : World} {S : Nat → Prop} {xs : List α} {cells cs : List Value} {x : α} (h : Row d w S xs cells) (hx : d.K w S x cs) : Row d w S (xs ++ [x]) (cells ++ cs) := by
  refine ⟨by rw [List.length_append, List.length_append, h.1, d.len hx]; simp [Nat.add_mul], fun i y hy => ?_⟩
  rcases Nat.lt_or_ge i xs.length with hi | hi
  · rw [List.getElem?_append_left hi] at hy
    have := h.2 i y hy
    have h2 : (i + 1) * d.sz ≤ cells.length := by rw [h.1]; exact Nat.mul_le_mul_right _ hi
    rw [Nat.add_mul, Nat.one_mul] at h2
    rw [List.drop_append_of_le_length (by omega), List.take_append_of_le_length (by rw [List.length_drop]; omega)]
    exact this
  · rw [List.getElem?_append_right hi] at hy
    have hi' : i = xs.length := by
      rcases Nat.eq_zero_or_pos (i - xs.length) with h0 | h0
      · omega
      · rw [List.getElem?_eq_none (by simp; omega)] at hy; cases hy
    subst hi'
    simp at hy
    subst hy
    rw [← h.1, List.drop_left, List.take_of_length_le (by rw [d.len hx]; exact Nat.le_refl _)]
    exact hx
theorem Row.take {α : Type} {d : Ty α} {w : World} {S : Nat → Prop} {xs : List α} {cells : List Value} (h : Row d w S xs cells) (n : Nat) : Row d w S (xs.take n) (cells.take (n * d.sz)) := by
  refine ⟨by rw [List.length_take, List.length_take, h.1]; rcases Nat.le_total n xs.length with h1 | h1
             · rw [Nat.min_eq_left h1, Nat.min_eq_left (Nat.mul_le_mul_right _ h1)]
             · rw [Nat.min_eq_right h1, Nat.min_eq_right (Nat.mul_le_mul_right _ h1)], fun i x hx => ?_⟩
  rw [List.getElem?_take] at hx
  split at hx
  · rename_i hi
    have h2 : (i + 1) * d.sz ≤ n * d.sz := Nat.mul_le_mul_right _ hi
    rw [Nat.add_mul, Nat.one_mul] at h2
    rw [List.drop_take, List.take_take, Nat.min_eq_left (by omega)]
    exact h.2 i x hx
  · cases hx
theorem Row.drop {α : Type} {d : Ty α} {w : World} {S : Nat → Prop} {xs : List α} {cells : List Value} (h : Row d w S xs cells) (n : Nat) : Row d w S (xs.drop n) (cells.drop (n * d.sz)) := by
  refine ⟨by rw [List.length_drop, List.length_drop, h.1, Nat.sub_mul], fun i x hx => ?_⟩
  rw [List.getElem?_drop] at hx
  have := h.2 (n + i) x hx
  rw [List.drop_drop, ← Nat.add_mul]
  exact this
/-- A slice that is read: A, c: where it lies, its capacity. -/
def At {α : Type} (d : Ty α) (w : World) (S : Nat → Prop) (A : Option Addr) (n c : Nat) (xs : List α) : Prop :=
  n = xs.length ∧ n ≤ c ∧ c ≤ maxLen ∧ (A = none → c = 0) ∧ ∃ cells, Sees w S A cells ∧ Row d w S xs cells
theorem At.chg {α : Type} {d : Ty α} {w w' : World} {S M : Nat → Prop} {A : Option Addr} {n c : Nat} {xs : List α} (h : At d w S A n c xs) (hc : Chg M w w') (hd : ∀ k, S k → ¬ M k) : At d w' S A n c xs := by
  obtain ⟨h1, h2, h3, h4, cells, h5, h6⟩ := h
  exact ⟨h1, h2, h3, h4, cells, h5.chg hc hd, h6.chg hc hd⟩
theorem At.mono {α : Type} {d : Ty α} {w : World} {S S' : Nat → Prop} {A : Option Addr} {n c : Nat} {xs : List α} (h : At d w S A n c xs) (hd : ∀ k, S k → S' k) : At d w S' A n c xs := by
  obtain ⟨h1, h2, h3, h4, cells, h5, h6⟩ := h
  exact ⟨h1, h2, h3, h4, cells, h5.mono hd, h6.mono hd⟩
theorem At.bound {α : Type} {d : Ty α} {w : World} {S : Nat → Prop} {A : Option Addr} {n c : Nat} {xs : List α} (h : At d w S A n c xs) : At d w (fun k => S k ∧ k < w.heap.size) A n c xs := by
  obtain ⟨h1, h2, h3, h4, cells, h5, h6⟩ := h
  exact ⟨h1, h2, h3, h4, cells, h5.bound, h6.1, fun i x hx => d.bound (h6.2 i x hx)⟩
def slice {α : Type} (d : Ty α) : Ty (List α) where
  sz := 1
  K := fun w S xs cs => ∃ A n c, cs = [.slice A n c] ∧ At d w S A n c xs
  len := fun h => by obtain ⟨_, _, _, rfl, _⟩ := h; rfl
  one := fun h u hu => by obtain ⟨_, _, _, rfl, _⟩ := h; rw [List.mem_singleton.1 hu]; rfl
  chg := fun h hc hd => by obtain ⟨A, n, c, rfl, h⟩ := h; exact ⟨A, n, c, rfl, h.chg hc hd⟩
  mono := fun h hd => by obtain ⟨A, n, c, rfl, h⟩ := h; exact ⟨A, n, c, rfl, h.mono hd⟩
  bound := fun h => by obtain ⟨A, n, c, rfl, h⟩ := h; exact ⟨A, n, c, rfl, h.bound⟩
def pair {α β : Type} (a : Ty α) (b : Ty β) : Ty (α × β) where
  sz := a.sz + b.sz
  K := fun w S x cs => ∃ c0 c1, cs = c0 ++ c1 ∧ a.K w S x.1 c0 ∧ b.K w S x.2 c1
  len := fun h => by obtain ⟨_, _, rfl, h0, h1⟩ := h; rw [List.length_append, a.len h0, b.len h1]
  one := fun h u hu => by
    obtain ⟨_, _, rfl, h0, h1⟩ := h
    rcases List.mem_append.1 hu with hu | hu
    · exact a.one h0 u hu
    · exact b.one h1 u hu
  chg := fun h hc hd => by obtain ⟨_, _, rfl, h0, h1⟩ := h; exact ⟨_, _, rfl, a.chg h0 hc hd, b.chg h1 hc hd⟩
  mono := fun h hd => by obtain ⟨_, _, rfl, h0, h1⟩ := h; exact ⟨_, _, rfl, a.mono h0 hd, b.mono h1 hd⟩
  bound := fun h => by obtain ⟨_, _, rfl, h0, h1⟩ := h; exact ⟨_, _, rfl, a.bound h0, b.bound h1⟩
def iso {α β : Type} (d : Ty α) (f : β → α) : Ty β where
  sz := d.sz
  K := fun w S x cs => d.K w S (f x) cs
  len := d.len
  one := d.one
  chg := d.chg
  mono := d.mono
  bound := d.bound

/-- What is read stays as it is where only new blocks, and blocks made since, are written. -/
theorem At.new {α : Type} {d : Ty α} {w w' : World} {S : Nat → Prop} {A : Option Addr} {n c : Nat} {xs : List α} (h : At d w S A n c xs) (hc : Chg (fun k => w.heap.size ≤ k) w w') : At d w' S A n c xs :=
  (h.bound.chg hc (fun k hk hlt => by have := hk.2; omega)).mono (fun k hk => hk.1)

/-- xs[m:] -/
theorem At.from_ {P : Program} {α : Type} {d : Ty α} {t e : TypeId} {z : Value} {bytes : Nat} (ht : P.underlying t = some (.slice e)) (hinfo : (P.info? e).map (fun i => (i.zero, i.size, i.bytes)) = some (some z, d.sz, bytes)) (A : Option Addr) (n c m q : Nat) (i : Int) (hi : i = (m : Int)) (hm : m ≤ n) (hq : n - m = q) :
    ∃ A' c', (∀ W : World, (Instr.slice t (.slice A n c) (some (.int .i64 i)) none none).run P W = .ok (.slice A' q c') W) ∧ ∀ (w : World) (S : Nat → Prop) (xs : List α), At d w S A n c xs → At d w S A' q c' (xs.drop m) := by
  obtain ⟨j, hj, _, hs, _⟩ := info_parts hinfo
  subst hi
  refine ⟨_, _, fun W => by rw [cut_from t e .i64 ht hj d.sz hs A n c m hm W, hq], fun w S xs h => ?_⟩
  obtain ⟨h1, h2, h3, h4, cells, h5, h6⟩ := h
  refine ⟨by rw [List.length_drop]; omega, by omega, by omega, fun hA => ?_, _, h5.cut (by rw [h6.1]; exact Nat.mul_le_mul_right _ (by omega)) (by omega), h6.drop m⟩
  split at hA
  · omega
  · have := h4 (by simpa using hA)
    omega
/-- xs[a:b], b within the length -/
theorem At.mid_ {P : Program} {α : Type} {d : Ty α} {t e : TypeId} {z : Value} {bytes : Nat} (ht : P.underlying t = some (.slice e)) (hinfo : (P.info? e).map (fun i => (i.zero, i.size, i.bytes)) = some (some z, d.sz, bytes)) (A : Option Addr) (n c a b q : Nat) (i j : Int) (hi : i = (a : Int)) (hj : j = (b : Int)) (hab : a ≤ b) (hb : b ≤ n) (hc : n ≤ c) (hq : b - a = q) :
    ∃ A' c', (∀ W : World, (Instr.slice t (.slice A n c) (some (.int .i64 i)) (some (.int .i64 j)) none).run P W = .ok (.slice A' q c') W) ∧ ∀ (w : World) (S : Nat → Prop) (xs : List α), At d w S A n c xs → At d w S A' q c' ((xs.take b).drop a) := by
  obtain ⟨k, hk, _, hs, _⟩ := info_parts hinfo
  subst hi hj
  refine ⟨_, _, fun W => by rw [cut_mid t e .i64 .i64 ht hk d.sz hs A n c a b hab (by omega) W, hq], fun w S xs h => ?_⟩
  obtain ⟨h1, h2, h3, h4, cells, h5, h6⟩ := h
  refine ⟨by rw [List.length_drop, List.length_take]; omega, by omega, by omega, fun hA => ?_, _, (h5.take (b * d.sz)).cut (by rw [List.length_take, h6.1]; exact Nat.le_trans (Nat.min_le_right _ _) (Nat.mul_le_mul_right _ (by omega))) (by omega), (h6.take b).drop a⟩
  split at hA
  · omega
  · have := h4 (by simpa using hA)
    omega
/-- xs[:b], b within the length -/
theorem At.to_ {α : Type} {d : Ty α} {w : World} {S : Nat → Prop} {A : Option Addr} {n c : Nat} {xs : List α} (h : At d w S A n c xs) {b : Nat} (hb : b ≤ n) : At d w S A b c (xs.take b) := by
  obtain ⟨h1, h2, h3, h4, cells, h5, h6⟩ := h
  exact ⟨by rw [List.length_take]; omega, by omega, h3, h4, _, h5.take (b * d.sz), h6.take b⟩

/-- Element i of a slice that is read. -/
theorem At.get {α : Type} {d : Ty α} {w : World} {S : Nat → Prop} {A : Option Addr} {n c : Nat} {xs : List α} (h : At d w S A n c xs) (hs : 0 < d.sz) {i : Nat} {x : α} (hx : xs[i]? = some x) :
    ∃ a cs, A = some a ∧ S a.block ∧ d.K w S x cs ∧ ∀ j u, cs[j]? = some u → w.cell? (a.add (i * d.sz + j)) = some u := by
  obtain ⟨h1, h2, h3, h4, cells, h5, h6⟩ := h
  have hi : i < xs.length := by
    rcases Nat.lt_or_ge i xs.length with h | h
    · exact h
    · rw [List.getElem?_eq_none h] at hx; cases hx
  rcases h5 with h5 | ⟨a, ha, hS, hc⟩
  · exfalso
    have := h6.1
    rw [h5] at this
    have h7 : 0 < xs.length * d.sz := Nat.mul_pos (by omega) hs
    simp at this
    omega
  · refine ⟨a, _, ha, hS, h6.2 i x hx, fun j u hj => ?_⟩
    rw [List.getElem?_take] at hj
    split at hj
    · rw [List.getElem?_drop] at hj
      exact hc _ u hj
    · cases hj
theorem u8_row {w : World} {S : Nat → Prop} {l : List UInt8} {cells : List Value} : Row u8 w S l cells ↔ cells = u8s l := by
  constructor
  · rintro ⟨h1, h2⟩
    apply List.ext_getElem?
    intro i
    rcases Nat.lt_or_ge i l.length with hi | hi
    · have h3 : (cells.drop (i * 1)).take 1 = [.int .u8 ((l[i]).toNat : Int)] := h2 i _ (List.getElem?_eq_getElem hi)
      rw [u8s_at (List.getElem?_eq_getElem hi)]
      have h4 := congrArg (·[0]?) h3
      simpa using h4
    · rw [List.getElem?_eq_none (by rw [h1]; show l.length * 1 ≤ i; omega), List.getElem?_eq_none (by rw [u8s_length]; omega)]
  · rintro rfl
    refine ⟨by rw [u8s_length]; show _ = l.length * 1; omega, fun i x hx => ?_⟩
    show ((u8s l).drop (i * 1)).take 1 = [.int .u8 (x.toNat : Int)]
    have h1 := u8s_at hx
    have hl : i < (u8s l).length := by
      rcases Nat.lt_or_ge i (u8s l).length with h | h
      · exact h
      · rw [List.getElem?_eq_none h] at h1; cases h1
    rw [Nat.mul_one, List.drop_eq_getElem_cons hl]
    rw [List.getElem?_eq_getElem hl] at h1
    injection h1 with h1
    rw [h1]
    rfl
/-- Bytes that are read. -/
theorem At.bytes {w : World} {S : Nat → Prop} {A : Option Addr} {n c : Nat} {l : List UInt8} (h : At u8 w S A n c l) : Sees w S A (u8s l) := by
  obtain ⟨_, _, _, _, cells, h5, h6⟩ := h
  rw [u8_row] at h6
  rw [← h6]
  exact h5
theorem At.of_bytes {w : World} {S : Nat → Prop} {A : Option Addr} {n c : Nat} {l : List UInt8} (h1 : n = l.length) (h2 : n ≤ c) (h3 : c ≤ maxLen) (h4 : A = none → c = 0) (h5 : Sees w S A (u8s l)) : At u8 w S A n c l := ⟨h1, h2, h3, h4, u8s l, h5, u8_row.2 rfl⟩
/-- One byte that is read. -/
theorem byteAt {w : World} {S : Nat → Prop} {A : Option Addr} {n c : Nat} {l : List UInt8} (h : At u8 w S A n c l) {i : Nat} {x : UInt8} (hx : l[i]? = some x) : ∃ a, A = some a ∧ S a.block ∧ w.cell? (a.add i) = some (.int .u8 (x.toNat : Int)) := by
  rcases h.bytes with h5 | ⟨a, ha, hS, hc⟩
  · exfalso
    have h6 := u8s_at hx
    rw [h5] at h6
    simp at h6
  · exact ⟨a, ha, hS, hc i _ (u8s_at hx)⟩
end Ty

/-! ### How a reading of an argument opens -/

section

variable {H : Type} {P : Program}

/-- A reading of type t, from block 0 on, is of kind d, in memory that was there. -/
structure Opens (P : Program) (t : TypeId) {α : Type} (d : Ty α) : Prop where
  size : P.cellsOf t = d.sz
  opens : ∀ {H : Type} (enc : TypeId × Value → H) (w : World) (spare : Nat → Bool) (held : Bool) (fuel : Nat) (cs : List Value) (x : DataW H × List MemPlace),
    DataW.trod enc P w 0 spare held fuel t cs = some x → ∃ v, d.K w (fun k => k < w.heap.size) v cs
theorem opens_int {t : TypeId} {k : IntKind} (ht : P.underlying t = some (.int k)) (hs : P.cellsOf t = 1) : Opens P t (Ty.int k) :=
  ⟨hs, fun enc w spare held fuel cs x h => by obtain ⟨n, rfl, _, hw⟩ := DataW.trod_int ht h; exact ⟨n, rfl, hw⟩⟩
theorem opens_u8 {t : TypeId} (ht : P.underlying t = some (.int .u8)) (hs : P.cellsOf t = 1) : Opens P t Ty.u8 :=
  ⟨hs, fun enc w spare held fuel cs x h => by
    obtain ⟨n, rfl, _, hw⟩ := DataW.trod_int ht h
    have hb : 0 ≤ n ∧ n ≤ 255 := by simpa [Lit.wf, IntKind.min, IntKind.max, IntKind.signed, IntKind.bits] using hw
    refine ⟨UInt8.ofNat n.toNat, ?_⟩
    show [Value.int .u8 n] = [Value.int .u8 _]
    have e : ((UInt8.ofNat n.toNat).toNat : Int) = n := by
      rw [UInt8.toNat_ofNat', Nat.mod_eq_of_lt (by omega)]; omega
    rw [e]⟩
theorem opens_bool {t : TypeId} (ht : P.underlying t = some .bool) (hs : P.cellsOf t = 1) : Opens P t Ty.bool :=
  ⟨hs, fun enc w spare held fuel cs x h => by obtain ⟨n, rfl, _⟩ := DataW.trod_bool ht h; exact ⟨n, rfl⟩⟩
theorem opens_str {t : TypeId} (ht : P.underlying t = some .string) (hs : P.cellsOf t = 1) : Opens P t Ty.str :=
  ⟨hs, fun enc w spare held fuel cs x h => by obtain ⟨n, rfl, _, hm⟩ := DataW.trod_string ht h; exact ⟨n, rfl, hm⟩⟩
theorem opens_slice {t e : TypeId} {α : Type} {d : Ty α} (ht : P.underlying t = some (.slice e)) (hs : P.cellsOf t = 1) (hd : Opens P e d) (h0 : 0 < d.sz) : Opens P t (Ty.slice d) :=
  ⟨hs, fun enc w spare held fuel cs x h => by
    classical
    rcases Go.Deep.open_slice ht h with ⟨rfl, _⟩ | ⟨a, len, cap, m, n, D, Pl, rfl, hb, hl, hm, hmm, rfl, hx⟩
    · exact ⟨[], none, 0, 0, rfl, rfl, Nat.le_refl _, by simp [maxLen], fun _ => rfl, [], .nil _ _ _, Ty.Row.nil _ _ _⟩
    · have hlm : len ≤ m := by rw [hmm]; split <;> omega
      have hall : ∀ i, i < len → ∃ cs' v, w.cells? 0 (a.add (i * P.cellsOf e)) (P.cellsOf e) = some cs' ∧ d.K w (fun k => k < w.heap.size) v cs' := fun i hi => by
        obtain ⟨cs', h1, h2⟩ := hx i (by omega)
        obtain ⟨_, hlen, _⟩ := World.cells?_some h1
        obtain ⟨v, hv⟩ := hd.2 enc w spare held n cs' _ h2
        exact ⟨cs', v, h1, hv⟩
      have step : ∀ k, k ≤ len → ∃ (xs : List α) (cells : List Value), xs.length = k ∧ Ty.Row d w (fun k => k < w.heap.size) xs cells ∧ ∀ j u, cells[j]? = some u → w.cell? (a.add j) = some u := by
        intro k
        induction k with
        | zero => intro _; exact ⟨[], [], rfl, Ty.Row.nil _ _ _, fun j u hj => by simp at hj⟩
        | succ k ih =>
          intro hk
          obtain ⟨xs, cells, hxl, hr, hc⟩ := ih (by omega)
          obtain ⟨cs', v, h1, h2⟩ := hall k (by omega)
          obtain ⟨_, hlen, hcell⟩ := World.cells?_some h1
          refine ⟨xs ++ [v], cells ++ cs', by simp [hxl], hr.snoc h2, fun j u hj => ?_⟩
          have hcl : cells.length = k * d.sz := by rw [hr.1, hxl]
          rcases Nat.lt_or_ge j cells.length with hj' | hj'
          · rw [List.getElem?_append_left hj'] at hj
            exact hc j u hj
          · rw [List.getElem?_append_right hj'] at hj
            have hj2 : j - cells.length < cs'.length := by
              rcases Nat.lt_or_ge (j - cells.length) cs'.length with h | h
              · exact h
              · rw [List.getElem?_eq_none h] at hj; cases hj
            have := hcell (j - cells.length) (by omega)
            rw [add_add, hd.1, ← hcl] at this
            rw [← hj, ← this]
            congr 2
            omega
      obtain ⟨xs, cells, hxl, hr, hc⟩ := step len (Nat.le_refl _)
      refine ⟨xs, some a, len, cap, rfl, hxl.symm, hl, hm, by simp, cells, ?_, hr⟩
      rcases Nat.eq_zero_or_pos cells.length with h | h
      · exact .inl (List.eq_nil_of_length_eq_zero h)
      · refine .inr ⟨a, rfl, ?_, hc⟩
        have := World.block_lt_of_cell? w _ (hc 0 cells[0] (List.getElem?_eq_getElem h))
        rwa [add_block] at this⟩
/-- The fields from the i-th on, whose cells begin at off. -/
structure OpensF (P : Program) (fs : Array Field) (i off : Nat) {α : Type} (d : Ty α) : Prop where
  opens : ∀ {H : Type} (enc : TypeId × Value → H) (w : World) (spare : Nat → Bool) (held : Bool) (n : Nat) (cs : List Value),
    (∀ (j : Nat) (f : Field), fs[j]? = some f → ∃ y, DataW.trod enc P w 0 spare held n f.type ((cs.drop f.offset).take (P.cellsOf f.type)) = some y) → off + d.sz ≤ cs.length → ∃ v, d.K w (fun k => k < w.heap.size) v ((cs.drop off).take d.sz)
theorem opensF_last {fs : Array Field} {i off : Nat} {α : Type} {d : Ty α} {f : Field} (hf : fs[i]? = some f) (ho : f.offset = off) (hd : Opens P f.type d) : OpensF P fs i off d :=
  ⟨fun enc w spare held n cs h hl => by
    obtain ⟨y, hy⟩ := h i f hf
    rw [ho, hd.1] at hy
    exact hd.2 enc w spare held n _ y hy⟩
theorem opensF_cons {fs : Array Field} {i off : Nat} {α β : Type} {d : Ty α} {r : Ty β} {f : Field} (hf : fs[i]? = some f) (ho : f.offset = off) (hd : Opens P f.type d) (hr : OpensF P fs (i + 1) (off + d.sz) r) : OpensF P fs i off (Ty.pair d r) :=
  ⟨fun enc w spare held n cs h hl => by
    have hl' : off + (d.sz + r.sz) ≤ cs.length := hl
    obtain ⟨x, hx⟩ := (opensF_last hf ho hd).1 enc w spare held n cs h (by omega)
    obtain ⟨y, hy⟩ := hr.1 enc w spare held n cs h (by omega)
    refine ⟨(x, y), _, _, ?_, hx, hy⟩
    show (cs.drop off).take (d.sz + r.sz) = _
    rw [List.take_add, List.drop_drop]⟩
theorem opens_struct {t : TypeId} {fs : Array Field} {α β : Type} {d : Ty α} (ht : P.underlying t = some (.struct fs)) (hs : P.cellsOf t = d.sz) (hd : OpensF P fs 0 0 d) (f : β → α) (g : α → β) (hfg : ∀ x, f (g x) = x) : Opens P t (Ty.iso d f) :=
  ⟨hs, fun enc w spare held fuel cs x h => by
    obtain ⟨xs, n, rfl, rfl, hcl, hxl, hx⟩ := DataW.trod_struct ht h
    obtain ⟨v, hv⟩ := hd.1 enc w spare held n cs (fun j f hf => by
      have hj : j < xs.length := by
        rw [hxl]
        rcases Nat.lt_or_ge j fs.size with h | h
        · exact h
        · rw [Array.getElem?_eq_none h] at hf; cases hf
      exact ⟨xs[j], by rw [hx j f hf, List.getElem?_eq_getElem hj]⟩) (by rw [Nat.zero_add, ← hs, hcl]; exact Nat.le_refl _)
    refine ⟨g v, ?_⟩
    show d.K w _ (f (g v)) cs
    rw [hfg, List.drop_zero, List.take_of_length_le (by rw [hcl, hs]; exact Nat.le_refl _)] at *
    exact hv⟩
end
theorem wf64 {x : Int} (h : (Lit.int .i64 x).wf = true) : -9223372036854775808 ≤ x ∧ x ≤ 9223372036854775807 := by
  simpa [Lit.wf, IntKind.min, IntKind.max, IntKind.signed, IntKind.bits] using h

end Go.Proofs.Ytcmfgijdelaelaa.C
