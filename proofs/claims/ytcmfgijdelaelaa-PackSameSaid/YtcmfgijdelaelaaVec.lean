
/- Rows of one's own whose elements may point elsewhere: Vec; and append as a law over them. -/

import Derived.Test.YtcmfgijdelaelaaTy

import Derived.Test.YtcmfgijdelaelaaBar

namespace Go.Proofs.Ytcmfgijdelaelaa.C

set_option linter.unusedVariables false

set_option linter.unusedSimpArgs false

open Go.RowKit

/-- v is a row of one's own in S that holds xs; what its elements point to lies in D, and not in the row. -/
def Vec {α : Type} (d : Ty α) (e : TypeId) (w : World) (S D : Nat → Prop) (v : Value) (xs : List α) : Prop :=
  ∃ cells, w.ownsRow 0 e d.sz v xs.length cells ∧ (∀ k, v.ownBlock = some k → S k) ∧ Ty.Row d w (fun k => D k ∧ v.ownBlock ≠ some k ∧ k < w.heap.size) xs cells

theorem Vec.nil {α : Type} (d : Ty α) (e : TypeId) (w : World) (S D : Nat → Prop) : Vec d e w S D (.slice none 0 0) [] :=
  ⟨[], own_nil _ _ _, fun k hk => by simp [Value.ownBlock] at hk, Ty.Row.nil _ _ _⟩
theorem Vec.form {α : Type} {d : Ty α} {e : TypeId} {w : World} {S D : Nat → Prop} {v : Value} {xs : List α} (h : Vec d e w S D v xs) : ∃ A c, v = .slice A xs.length c := by
  obtain ⟨cells, h1, _⟩ := h
  obtain ⟨A, c, hv, _⟩ := own_sees h1
  exact ⟨A, c, hv⟩
theorem Vec.chg {α : Type} {d : Ty α} {e : TypeId} {w w' : World} {S D M : Nat → Prop} {v : Value} {xs : List α} (h : Vec d e w S D v xs) (hc : Chg M w w') (hv : ∀ k, v.ownBlock = some k → ¬ M k) (hD : ∀ k, D k → v.ownBlock ≠ some k → k < w.heap.size → ¬ M k) : Vec d e w' S D v xs := by
  obtain ⟨cells, h1, h2, h3⟩ := h
  exact ⟨cells, hc.own h1 hv, h2, (h3.chg hc (fun k hk => hD k hk.1 hk.2.1 hk.2.2)).mono (fun k hk => ⟨hk.1, hk.2.1, Nat.lt_of_lt_of_le hk.2.2 hc.size⟩)⟩
theorem Vec.mono {α : Type} {d : Ty α} {e : TypeId} {w : World} {S D S' D' : Nat → Prop} {v : Value} {xs : List α} (h : Vec d e w S D v xs) (hS : ∀ k, S k → k < w.heap.size → S' k) (hD : ∀ k, D k → k < w.heap.size → D' k) : Vec d e w S' D' v xs := by
  obtain ⟨cells, h1, h2, h3⟩ := h
  exact ⟨cells, h1, fun k hk => hS k (h2 k hk) (own_lt h1 k hk), h3.mono (fun k hk => ⟨hD k hk.1 hk.2.2, hk.2⟩)⟩
theorem Vec.lt {α : Type} {d : Ty α} {e : TypeId} {w : World} {S D : Nat → Prop} {v : Value} {xs : List α} (h : Vec d e w S D v xs) (k : Nat) (hk : v.ownBlock = some k) : k < w.heap.size := by
  obtain ⟨cells, h1, _⟩ := h
  exact own_lt h1 k hk
theorem Vec.inS {α : Type} {d : Ty α} {e : TypeId} {w : World} {S D : Nat → Prop} {v : Value} {xs : List α} (h : Vec d e w S D v xs) (k : Nat) (hk : v.ownBlock = some k) : S k := by
  obtain ⟨cells, _, h2, _⟩ := h
  exact h2 k hk
theorem Vec.ne {α : Type} {d : Ty α} {e : TypeId} {w : World} {S D : Nat → Prop} {v : Value} {xs : List α} (h : Vec d e w S D v xs) {g t : Nat} {cs : Array Value} {m : Nat × Nat} (hb : w.heap[g]? = some (.cells cs t m)) (hne : e ≠ t) : v.ownBlock ≠ some g := by
  obtain ⟨cells, h1, _⟩ := h
  exact own_ne h1 hb hne
/-- For reading. -/
theorem Vec.at {α : Type} {d : Ty α} {e : TypeId} {w : World} {S D : Nat → Prop} {A : Option Addr} {n c : Nat} {xs : List α} (h : Vec d e w S D (.slice A n c) xs) : Ty.At d w (fun k => S k ∨ D k) A n c xs := by
  obtain ⟨cells, h1, h2, h3⟩ := h
  have hn : n = xs.length := by
    obtain ⟨A', c', hv, _⟩ := own_sees h1
    injection hv
  subst hn
  obtain ⟨q1, q2, q3, q4⟩ := own_at h1
  exact ⟨rfl, q1, q2, q3, cells, q4.mono (fun k hk => .inl (h2 k hk)), h3.mono (fun k hk => .inr hk.1)⟩
/-- One element: its cells, and where they lie. -/
theorem Vec.get {α : Type} {d : Ty α} {e : TypeId} {w : World} {S D : Nat → Prop} {A : Option Addr} {n c : Nat} {xs : List α} (h : Vec d e w S D (.slice A n c) xs) (hs : 0 < d.sz) {i : Nat} {x : α} (hx : xs[i]? = some x) :
    ∃ g cs, A = some ⟨g, 0, none⟩ ∧ S g ∧ g < w.heap.size ∧ d.K w (fun k => D k ∧ k ≠ g ∧ k < w.heap.size) x cs ∧ ∀ j u, cs[j]? = some u → w.cell? ⟨g, i * d.sz + j, none⟩ = some u := by
  obtain ⟨cells, h1, h2, h3⟩ := h
  have hi : i < xs.length := by
    rcases Nat.lt_or_ge i xs.length with h | h
    · exact h
    · rw [List.getElem?_eq_none h] at hx; cases hx
  have hn : n = xs.length := by
    obtain ⟨A', c', hv, _⟩ := own_sees h1
    injection hv
  subst hn
  obtain ⟨g, hA, hg⟩ := own_form h1 (by omega)
  subst hA
  refine ⟨g, _, rfl, h2 g rfl, hg, (d.mono (h3.2 i x hx) (fun k hk => ⟨hk.1, fun e => hk.2.1 (by rw [e]; rfl), hk.2.2⟩)), fun j u hj => ?_⟩
  have hl := h1.1
  rw [List.getElem?_take] at hj
  split at hj
  · rename_i hjs
    rw [List.getElem?_drop] at hj
    have h4 : i * d.sz + j < xs.length * d.sz := by
      have : (i + 1) * d.sz ≤ xs.length * d.sz := Nat.mul_le_mul_right _ hi
      rw [Nat.add_mul, Nat.one_mul] at this
      omega
    rw [h1.cellAt (i * d.sz + j) h4]
    exact hj
  · cases hj

section

variable {P : Program} {ops : Array Oper} {rest : List Oper} {o : Oper} {a : Act} {Q : Exit → Act → World → Prop}
theorem Ty.Row.append {α : Type} {d : Ty α} {w : World} {S : Nat → Prop} {xs ys : List α} {cs ds : List Value} (h : Ty.Row d w S xs cs) (k : Ty.Row d w S ys ds) : Ty.Row d w S (xs ++ ys) (cs ++ ds) := by
  refine ⟨by rw [List.length_append, List.length_append, h.1, k.1, Nat.add_mul], fun i x hx => ?_⟩
  rcases Nat.lt_or_ge i xs.length with hi | hi
  · rw [List.getElem?_append_left hi] at hx
    have h2 : (i + 1) * d.sz ≤ cs.length := by rw [h.1]; exact Nat.mul_le_mul_right _ hi
    rw [Nat.add_mul, Nat.one_mul] at h2
    rw [List.drop_append_of_le_length (by omega), List.take_append_of_le_length (by rw [List.length_drop]; omega)]
    exact h.2 i x hx
  · rw [List.getElem?_append_right hi] at hx
    have h2 := k.2 _ x hx
    have h3 : i * d.sz = cs.length + (i - xs.length) * d.sz := by rw [h.1, ← Nat.add_mul]; congr 1; omega
    rw [h3, List.drop_append, List.drop_eq_nil_of_le (by omega), List.nil_append, Nat.add_sub_cancel_left]
    exact h2
theorem Ty.Row.one_ {α : Type} {d : Ty α} {w : World} {S : Nat → Prop} {x : α} {cs : List Value} (h : d.K w S x cs) : Ty.Row d w S [x] cs := by
  have := Ty.Row.snoc (Ty.Row.nil d w S) h
  simpa using this
theorem Vec.app_run {α : Type} {d : Ty α} (w : World) (t ty e : TypeId) (z : Value) (bytes : Nat) (ht : P.underlying t = some (.slice e))
    (hinfo : (P.info? e).map (fun i => (i.zero, i.size, i.bytes)) = some (some z, d.sz, bytes)) (hzs : z.cells.size = d.sz) (hsz : 0 < d.sz) (hb0 : 0 < bytes)
    {S D : Nat → Prop} {v : Value} {xs : List α} (hv : Vec d e w S D v xs) {A : Option Addr} {m c : Nat} {ys : List α} {news : List Value} {R : Nat → Prop} (hA : A = none → c = 0) (hmc : m ≤ c) (hm : m = ys.length) (hsee : Sees w R A news)
    (hrow : Ty.Row d w (fun k => D k ∧ v.ownBlock ≠ some k ∧ k < w.heap.size) ys news) (hbytes : (xs.length + m) * bytes ≤ 140737488355328) :
    ∃ A' c' w', (Builtin.append_ #[t, t] ty #[v, .slice A m c]).run P w = .ok (.slice A' (xs.length + m) c') w' ∧ Vec d e w' (fun k => S k ∨ w.heap.size ≤ k) D (.slice A' (xs.length + m) c') (xs ++ ys) ∧ Chg (fun k => v.ownBlock = some k) w w' := by
  obtain ⟨cells, h1, h2, h3⟩ := hv
  obtain ⟨v', w', hr, g1, g2, g3⟩ := Go.Proofs.Ytcmfgijdelaelaa.C.app_run (P := P) w t ty e z d.sz bytes ht hinfo hzs hsz hb0 v xs.length cells h1 A m c news R hA hmc (by rw [hrow.1, hm]) hsee hrow.one hbytes
  obtain ⟨A', c', rfl, _⟩ := own_sees g1
  refine ⟨A', c', w', hr, ⟨cells ++ news, by rw [List.length_append, ← hm]; exact g1, fun k hk => ?_, ?_⟩, g2⟩
  · rcases g3 k hk with h | h
    · exact .inl (h2 k h)
    · exact .inr h
  · refine ((h3.append hrow).chg g2 (fun k hk => hk.2.1)).mono (fun k hk => ⟨hk.1, fun hv => ?_, Nat.lt_of_lt_of_le hk.2.2 g2.size⟩)
    rcases g3 k hv with h | h
    · exact hk.2.1 h
    · have := hk.2.2; omega
theorem vec_list {α : Type} {d : Ty α} (w : World) (hgd : o.guard = none) (s x : Operand) (t e : TypeId) (z : Value) (bytes : Nat)
    (ho : o.op = .call { callee := .builtin .append, args := #[s, x], argTypes := #[t, t] }) (ht : P.underlying t = some (.slice e))
    (hinfo : (P.info? e).map (fun i => (i.zero, i.size, i.bytes)) = some (some z, d.sz, bytes)) (hzs : z.cells.size = d.sz) (hsz : 0 < d.sz) (hb0 : 0 < bytes)
    {S D : Nat → Prop} (v : Value) {xs : List α} (hs : a.eval s = v) (hv : Vec d e w S D v xs) (A : Option Addr) (m c : Nat) {ys : List α} {news : List Value} {R : Nat → Prop} (hx : a.eval x = .slice A m c) (hA : A = none → c = 0) (hmc : m ≤ c) (hm : m = ys.length) (hsee : Sees w R A news)
    (hrow : Ty.Row d w (fun k => D k ∧ v.ownBlock ≠ some k ∧ k < w.heap.size) ys news) (hbytes : (xs.length + m) * bytes ≤ 140737488355328)
    (h : ∀ A' c' w', Vec d e w' (fun k => S k ∨ w.heap.size ≤ k) D (.slice A' (xs.length + m) c') (xs ++ ys) → Chg (fun k => v.ownBlock = some k) w w' → wpList P ops Q rest (a.put o.dst (.slice A' (xs.length + m) c')) w') :
    wpList P ops Q (o :: rest) a w := by
  refine wpList_plain hgd fun K hK => ?_
  obtain ⟨A', c', w', hr, h2, h3⟩ := hv.app_run (P := P) w t o.type e z bytes ht hinfo hzs hsz hb0 hA hmc hm hsee hrow hbytes
  unfold Oper.wp execOp
  simp only [ho, resolve, invoke, builtin, Sem.run_bind, Sem.run_pure, Result.andThen_ok, List.map_toArray, List.map_cons, List.map_nil, hs, hx, hr]
  exact hK _ _ (h A' c' w' h2 h3)
theorem vec_step {E : Prop} {α : Type} {d : Ty α} (w : World) {K : Act → World → Prop} (hgd : o.guard = none) (s x : Operand) (t e : TypeId) (z : Value) (bytes : Nat)
    (ho : o.op = .call { callee := .builtin .append, args := #[s, x], argTypes := #[t, t] }) (ht : P.underlying t = some (.slice e))
    (hinfo : (P.info? e).map (fun i => (i.zero, i.size, i.bytes)) = some (some z, d.sz, bytes)) (hzs : z.cells.size = d.sz) (hsz : 0 < d.sz) (hb0 : 0 < bytes)
    {S D : Nat → Prop} (v : Value) {xs : List α} (hs : a.eval s = v) (hv : Vec d e w S D v xs) (A : Option Addr) (m c : Nat) {ys : List α} {news : List Value} {R : Nat → Prop} (hx : a.eval x = .slice A m c) (hA : A = none → c = 0) (hmc : m ≤ c) (hm : m = ys.length) (hsee : Sees w R A news)
    (hrow : Ty.Row d w (fun k => D k ∧ v.ownBlock ≠ some k ∧ k < w.heap.size) ys news) (hbytes : (xs.length + m) * bytes ≤ 140737488355328)
    (h : ∀ A' c' w', Vec d e w' (fun k => S k ∨ w.heap.size ≤ k) D (.slice A' (xs.length + m) c') (xs ++ ys) → Chg (fun k => v.ownBlock = some k) w w' → K (a.put o.dst (.slice A' (xs.length + m) c')) w') :
    if Region.wanted o (yielded ops a.tmps) = true then Oper.wp P o a w K Q else E := by
  have hw : Region.wanted o (yielded ops a.tmps) = true := by simp [Region.wanted, hgd]
  rw [if_pos hw]
  obtain ⟨A', c', w', hr, h2, h3⟩ := hv.app_run (P := P) w t o.type e z bytes ht hinfo hzs hsz hb0 hA hmc hm hsee hrow hbytes
  unfold Oper.wp execOp
  simp only [ho, resolve, invoke, builtin, Sem.run_bind, Sem.run_pure, Result.andThen_ok, List.map_toArray, List.map_cons, List.map_nil, hs, hx, hr]
  exact h A' c' w' h2 h3
end

/-- append within the room: in place. -/
theorem room_run {P : Program} (w : World) (t ty e : TypeId) (z : Value) (size bytes : Nat) (ht : P.underlying t = some (.slice e)) (hinfo : (P.info? e).map (fun i => (i.zero, i.size, i.bytes)) = some (some z, size, bytes))
    {b cap : Nat} {cur : Array Value} (hb : w.heap[b]? = some (.cells cur e (0, 0))) (hcur : cur.size = cap * size) (n : Nat) (A : Option Addr) (m c : Nat) (news : List Value) (R : Nat → Prop) (hA : A = none → c = 0) (hmc : m ≤ c) (hl : news.length = m * size) (hsee : Sees w R A news) (h1 : ∀ u ∈ news, u.oneCell' = true) (hroom : n + m ≤ cap) :
    (Builtin.append_ #[t, t] ty #[.slice (some ⟨b, 0, none⟩) n cap, .slice A m c]).run P w = .ok (.slice (some ⟨b, 0, none⟩) (n + m) cap) (w.setCells b (n * size) news) := by
  obtain ⟨i, hi, hz0, hz1, hz2⟩ := info_parts hinfo
  subst hz1
  cases A with
  | none =>
    have hc := hA rfl
    subst hc
    have hm : m = 0 := by omega
    subst hm
    have hn : news = [] := List.eq_nil_of_length_eq_zero (by simpa using hl)
    subst hn
    have hg : (0 : Nat) = 0 := rfl
    simp [Builtin.append_, run_underlying ht, sizeOf, typeInfo, hi, Builtin.lenOf, World.setCells, Builtin.firstCells, show n ≤ cap by omega, storeCells]
  | some ad =>
    have hnews : ∀ j u, news[j]? = some u → w.cell? (ad.add j) = some u := by
      rcases hsee with h | ⟨a', ha, _, hx⟩
      · intro j u hj; rw [h] at hj; simp at hj
      · cases ha; exact hx
    have hfit : n * i.size + news.length ≤ cur.size := by rw [hl, hcur, ← Nat.add_mul]; exact Nat.mul_le_mul_right _ hroom
    have := run_append_room_cells (P := P) w t ty e i ht hi b 0 n cap ad m c news hl hnews h1 hroom (fun j hj => by rw [cellAt hb]; simp; omega) (fun j hj => freeAt hb _)
    rw [Nat.zero_add] at this
    exact this
/-- clear(s) of elements of whatever size. -/
theorem clear_run {P : Program} (w : World) (t e ty : TypeId) (z : Value) (size : Nat) (ht : P.underlying t = some (.slice e)) (hv : ∀ w, (zeroValue e).run P w = .ok z w) (hz : z.cells.size = size) (hone : ∀ u ∈ z.cells, u.oneCell' = true) (h0 : 0 < size)
    {b : Nat} {cur : Array Value} (hb : w.heap[b]? = some (.cells cur e (0, 0))) (o n c : Nat) (hn : 0 < n) (hfit : o + n * size ≤ cur.size) :
    ∃ zs : List Value, zs.length = n * size ∧ (Builtin.clear_ #[t] ty #[.slice (some ⟨b, o, none⟩) n c]).run P w = .ok (.tuple #[]) (w.setCells b o zs) := by
  have hzl : (Builtin.zeroCells z.cells n).toList.length = n * size := by simp [Builtin.zeroCells, hz]
  have hz1 : ∀ v ∈ (Builtin.zeroCells z.cells n).toList, v.oneCell' = true := by
    intro v hv
    simp only [Builtin.zeroCells, Array.toList_map, List.mem_map] at hv
    obtain ⟨i, hi, rfl⟩ := hv
    have hlt : i % z.cells.size < z.cells.size := Nat.mod_lt _ (by omega)
    rw [getElem!_pos z.cells _ hlt]
    exact hone _ (Array.getElem_mem hlt)
  have hst := run_storeCells_cells (P := P) b o (Builtin.zeroCells z.cells n).toList 0 w (by intro j hj; rw [cellAt hb]; simp; omega) (by intro j hj; exact freeAt hb _) hz1
  simp only [Nat.add_zero] at hst
  refine ⟨_, hzl, ?_⟩
  obtain ⟨m, rfl⟩ : ∃ m, n = m + 1 := ⟨n - 1, by omega⟩
  simp [Builtin.clear_, run_underlying ht, hv, hst]
/-- A literal in a new block. -/
theorem new_sees (W : World) (cs : Array Value) (e : TypeId) : Sees (W.alloc (.cells cs e)) (fun k => k = W.heap.size) (some ⟨W.heap.size, 0, none⟩) cs.toList := by
  refine .inr ⟨_, rfl, rfl, fun j u hj => ?_⟩
  rw [add_at, Nat.zero_add, cellAt (blk_new W _)]
  simpa using hj
end Go.Proofs.Ytcmfgijdelaelaa.C
