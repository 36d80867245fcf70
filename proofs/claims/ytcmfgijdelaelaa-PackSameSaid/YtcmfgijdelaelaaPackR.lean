
/- The contract of the codec's num that reads. -/

import Derived.Test.YtcmfgijdelaelaaPackN

import Derived.Test.YtcmfgijdelaelaaPackP

namespace Go.Proofs.Ytcmfgijdelaelaa.Pa

set_option linter.unusedVariables false

set_option linter.unusedSimpArgs false

open Go.RowKit Go.Proofs.Ytcmfgijdelaelaa.C

attribute [local go_sem] max2_int min2_int max_two min_two

/-- k of the numbers of a block were read. -/
structure NumsAt (w : World) (B g : Nat) (A : Option Addr) (n c : Nat) (b : List UInt8) (at_ : Nat) (bad : Bool) (p tp : Nat) (vs : List Int) (r : List Value) (k : Nat) (us : List Int) (at' : Nat) (bad' : Bool) (wr : World) : Prop where
  len : us.length = k
  wf : ∀ u ∈ us, (Lit.int .i64 u).wf = true
  rd : Rd wr B g A n c b at' bad'
  blk : wr.heap[p]? = some (.cells (ints (us ++ vs.drop k) ++ r).toArray tp (0, 0))
  chg : Chg (fun j => j = g ∨ j = p) w wr
  eq : (left b at_ bad).bind (rdList rdNum k) = (left b at' bad').map fun r => (us, r)
/-- All of them, or it went bad. -/
def NumsTo (w : World) (B g : Nat) (A : Option Addr) (n c : Nat) (b : List UInt8) (at_ : Nat) (bad : Bool) (p tp : Nat) (m : Nat) (r : List Value) (w' : World) : Prop :=
  ∃ us : List Int, us.length = m ∧ (∀ u ∈ us, (Lit.int .i64 u).wf = true) ∧ w'.heap[p]? = some (.cells (ints us ++ r).toArray tp (0, 0)) ∧ Chg (fun j => j = g ∨ j = p) w w' ∧ RdTo B g A n c b at_ bad (rdList rdNum m) w' us

theorem left_none {b : List UInt8} {at_ : Nat} : left b at_ true = none := rfl
theorem left_some {b : List UInt8} {at_ : Nat} : left b at_ false = some (b.drop at_) := rfl

theorem Rd.drew {w : World} {B g : Nat} {A : Option Addr} {n c : Nat} {b : List UInt8} {at_ : Nat} {bad : Bool} (h : Rd w B g A n c b at_ bad) : Rd w.drew B g A n c b at_ bad := ⟨h.low, h.blk, h.row.chg ((Chg.refl (fun _ => False) w).drew) (fun _ _ h => h), h.le⟩
theorem Rd.setBad {w : World} {B g : Nat} {A : Option Addr} {n c : Nat} {b : List UInt8} {at_ : Nat} {bad : Bool} (h : Rd w B g A n c b at_ bad) (y : Bool) : Rd (w.setCell ⟨g, 3, none⟩ (.bool y)) B g A n c b at_ y :=
  ⟨h.low, blk_set h.blk 3 _, h.row.chg ((Chg.refl (fun k => k = g) w).set (p := ⟨g, 3, none⟩) (fun _ => rfl) _) (fun k hk e => by have := h.low; subst e; omega), h.le⟩
theorem Rd.setAt {w : World} {B g : Nat} {A : Option Addr} {n c : Nat} {b : List UInt8} {at_ : Nat} {bad : Bool} (h : Rd w B g A n c b at_ bad) {q : Nat} (hq : q ≤ n) : Rd (w.setCell ⟨g, 1, none⟩ (.int .i64 (q : Int))) B g A n c b q bad :=
  ⟨h.low, blk_set h.blk 1 _, h.row.chg ((Chg.refl (fun k => k = g) w).set (p := ⟨g, 1, none⟩) (fun _ => rfl) _) (fun k hk e => by have := h.low; subst e; omega), hq⟩
theorem NumsAt.bad {w : World} {B g : Nat} {A : Option Addr} {n c : Nat} {b : List UInt8} {at_ : Nat} {bad : Bool} {p tp : Nat} {vs : List Int} {r : List Value} {k : Nat} {us : List Int} {at' : Nat} {bad' : Bool} {wr w2 : World} (h : NumsAt w B g A n c b at_ bad p tp vs r k us at' bad' wr) (hpg : p ≠ g)
    (hw2 : w2 = (wr.setCell ⟨g, 3, none⟩ (.bool bad')).drew) : NumsAt w B g A n c b at_ bad p tp vs r k us at' bad' w2 := by
  subst hw2
  have hc : Chg (fun k => k = g) wr (wr.setCell ⟨g, 3, none⟩ (.bool bad')) := (Chg.refl (fun k => k = g) wr).set (p := ⟨g, 3, none⟩) (fun _ => rfl) _
  exact ⟨h.len, h.wf, (h.rd.setBad bad').drew, hc.blk h.blk hpg, (h.chg.trans hc (fun _ h _ => .inl h)).drew, h.eq⟩
theorem rest_wf {vs us : List Int} {k : Nat} (h : ∀ u ∈ us, (Lit.int .i64 u).wf = true) (h2 : ∀ u ∈ vs, (Lit.int .i64 u).wf = true) : ∀ u ∈ us ++ vs.drop k, (Lit.int .i64 u).wf = true := by
  intro u hu
  rcases List.mem_append.1 hu with hu | hu
  · exact h u hu
  · exact h2 u (List.mem_of_mem_drop hu)
/-- It was bad. -/
theorem NumsAt.stop {w : World} {B g : Nat} {A : Option Addr} {n c : Nat} {b : List UInt8} {at_ : Nat} {bad : Bool} {p tp : Nat} {vs : List Int} {r : List Value} {k m : Nat} {us : List Int} {at' : Nat} {wr : World} (h : NumsAt w B g A n c b at_ bad p tp vs r k us at' true wr) (hm : m = vs.length) (hwf : ∀ u ∈ vs, (Lit.int .i64 u).wf = true) (hk : k ≤ m) :
    NumsTo w B g A n c b at_ bad p tp m r wr :=
  ⟨us ++ vs.drop k, by rw [List.length_append, h.len, List.length_drop]; omega, rest_wf h.wf hwf, h.blk, h.chg, at', true, h.rd, by
    have e := h.eq
    rw [left_none, Option.map_none] at e ⊢
    exact rdList_stop e hk⟩
/-- It lacks. -/
theorem NumsAt.short {w : World} {B g : Nat} {A : Option Addr} {n c : Nat} {b : List UInt8} {at_ : Nat} {bad : Bool} {p tp : Nat} {vs : List Int} {r : List Value} {k m : Nat} {us : List Int} {at' : Nat} {wr w2 : World} (h : NumsAt w B g A n c b at_ bad p tp vs r k us at' false wr) (hm : m = vs.length) (hwf : ∀ u ∈ vs, (Lit.int .i64 u).wf = true) (hk : k < m) (hpg : p ≠ g) (hlack : n < at' + 6)
    (hw2 : w2 = (wr.setCell ⟨g, 3, none⟩ (.bool true)).drew) : Rd w2 B g A n c b at' true ∧ NumsTo w B g A n c b at_ bad p tp m r w2 := by
  subst hw2
  have hc : Chg (fun k => k = g) wr (wr.setCell ⟨g, 3, none⟩ (.bool true)) := (Chg.refl (fun k => k = g) wr).set (p := ⟨g, 3, none⟩) (fun _ => rfl) _
  refine ⟨(h.rd.setBad true).drew, us ++ vs.drop k, by rw [List.length_append, h.len, List.length_drop]; omega, rest_wf h.wf hwf, hc.blk h.blk hpg, (h.chg.trans hc (fun _ h _ => .inl h)).drew, at', true, (h.rd.setBad true).drew, ?_⟩
  have e := rdList_step h.eq
  rw [left_some, Option.bind_some, show rdNum (b.drop at') = none by
    unfold rdNum
    rw [if_pos (by have := h.rd.row.1; rw [List.length_drop]; omega)]] at e
  rw [left_none, Option.map_none]
  exact rdList_stop (by rw [e]; rfl) hk
theorem NumsAt.drewN {w : World} {B g : Nat} {A : Option Addr} {n c : Nat} {b : List UInt8} {at_ : Nat} {bad : Bool} {p tp : Nat} {vs : List Int} {r : List Value} {k : Nat} {us : List Int} {at' : Nat} {bad' : Bool} {wr : World} (h : NumsAt w B g A n c b at_ bad p tp vs r k us at' bad' wr) (q : Nat) : NumsAt w B g A n c b at_ bad p tp vs r k us at' bad' (wr.drewN q) :=
  ⟨h.len, h.wf, h.rd.chg ((Chg.refl (fun _ => False) wr).drewN q) (fun _ h => h.elim) (fun h => h), h.blk, h.chg.drewN q, h.eq⟩
theorem NumsAt.whole {w : World} {B g : Nat} {A : Option Addr} {n c : Nat} {b : List UInt8} {at_ : Nat} {bad : Bool} {p tp : Nat} {vs : List Int} {r : List Value} {m : Nat} {us : List Int} {at' : Nat} {bad' : Bool} {wr : World} (h : NumsAt w B g A n c b at_ bad p tp vs r m us at' bad' wr) (hm : m = vs.length) : NumsTo w B g A n c b at_ bad p tp m r wr :=
  ⟨us, h.len, h.wf, by
    have := h.blk
    rwa [List.drop_of_length_le (by omega), List.append_nil] at this, h.chg, at', bad', h.rd, h.eq⟩
theorem six_drop {b : List UInt8} {n at_ : Nat} (hn : n = b.length) (h : at_ + 6 ≤ n) : (b.take (at_ + 6)).drop at_ = (b.drop at_).take 6 ∧ ((b.drop at_).take 6).length = 6 := by
  refine ⟨by rw [List.drop_take]; congr 1; omega, by rw [List.length_take, List.length_drop]; omega⟩
theorem val_snoc (l : List UInt8) (x : UInt8) : val (l ++ [x]) = val l * 256 + x.toNat := by
  unfold val
  rw [List.foldl_append, List.foldl_cons, List.foldl_nil]
theorem val_bound (l : List UInt8) : ∀ j, val (l.take j) < 256 ^ j
  | 0 => by simp [val]
  | j + 1 => by
    have ih := val_bound l j
    have hp : 256 ^ (j + 1) = 256 ^ j * 256 := Nat.pow_succ ..
    rw [List.take_add_one]
    cases h : l[j]? with
    | none =>
      rw [Option.toList_none, List.append_nil]
      omega
    | some x =>
      have hx := x.toNat_lt
      rw [Option.toList_some, val_snoc]
      omega
theorem val_take_lt (l : List UInt8) {j : Nat} (hj : j ≤ 6) : val (l.take j) < 281474976710656 := Nat.lt_of_lt_of_le (val_bound l j) (Nat.pow_le_pow_right (n := 256) (j := 6) (by omega) hj)
theorem val_take_lt2 (l : List UInt8) {j : Nat} (hj : j < 6) : val (l.take j) < 1099511627776 := Nat.lt_of_lt_of_le (val_bound l j) (Nat.pow_le_pow_right (n := 256) (j := 5) (by omega) (by omega))
theorem int_wf {x : Int} (h0 : -9223372036854775808 ≤ x) (h1 : x ≤ 9223372036854775807) : (Lit.int .i64 x).wf = true := by
  simp [Lit.wf, IntKind.min, IntKind.max, IntKind.signed, IntKind.bits, h0, h1]
theorem NumsAt.get {w : World} {B g : Nat} {A : Option Addr} {n c : Nat} {b : List UInt8} {at_ : Nat} {bad : Bool} {p tp : Nat} {vs : List Int} {r : List Value} {k m : Nat} {us : List Int} {at' : Nat} {bad' : Bool} {wr : World} (h : NumsAt w B g A n c b at_ bad p tp vs r k us at' bad' wr) (hm : m = vs.length) (hk : k < m) :
    ∃ u, vs.drop k = u :: vs.drop (k + 1) ∧ (us ++ vs.drop k)[k]? = some u := by
  have e : vs.drop k = vs[k] :: vs.drop (k + 1) := List.drop_eq_getElem_cons (by omega)
  refine ⟨_, e, ?_⟩
  rw [e, List.getElem?_append_right (by rw [h.len]; exact Nat.le_refl _), h.len, Nat.sub_self]
  rfl
theorem NumsAt.cell {w : World} {B g : Nat} {A : Option Addr} {n c : Nat} {b : List UInt8} {at_ : Nat} {bad : Bool} {p tp : Nat} {vs : List Int} {r : List Value} {k m : Nat} {us : List Int} {at' : Nat} {bad' : Bool} {wr : World} (h : NumsAt w B g A n c b at_ bad p tp vs r k us at' bad' wr) (hm : m = vs.length) (hk : k < m) :
    ∃ u, wr.cell? ⟨p, k, none⟩ = some (.int .i64 u) := by
  obtain ⟨u, _, h2⟩ := h.get hm hk
  exact ⟨u, by rw [cellAt h.blk]; exact ints_at h2 r⟩
theorem NumsAt.step {w : World} {B g : Nat} {A : Option Addr} {n c : Nat} {b : List UInt8} {at_ : Nat} {bad : Bool} {p tp : Nat} {vs : List Int} {r : List Value} {k m : Nat} {us : List Int} {at' q : Nat} {wr : World} (h : NumsAt w B g A n c b at_ bad p tp vs r k us at' false wr) (hm : m = vs.length) (hk : k < m) (hpg : p ≠ g)
    (hB : B ≤ p) (hle : at' + 6 ≤ n) (hq : q = val ((b.drop at').take 6)) (hq48 : q < 281474976710656) :
    NumsAt w B g A n c b at_ bad p tp vs r (k + 1) (us ++ [(q : Int) - 1]) (at' + 6) false ((wr.setCell ⟨p, k, none⟩ (.int .i64 ((q : Int) - 1))).setCell ⟨g, 1, none⟩ (.int .i64 ((at' : Int) + 6))) := by
  obtain ⟨u, h1, _⟩ := h.get hm hk
  have c1 : Chg (fun j => j = p) wr (wr.setCell ⟨p, k, none⟩ (.int .i64 ((q : Int) - 1))) := (Chg.refl (fun j => j = p) wr).set (p := ⟨p, k, none⟩) (fun _ => rfl) _
  have c2 : ∀ v, Chg (fun j => j = g) (wr.setCell ⟨p, k, none⟩ (.int .i64 ((q : Int) - 1))) ((wr.setCell ⟨p, k, none⟩ (.int .i64 ((q : Int) - 1))).setCell ⟨g, 1, none⟩ v) := fun v => (Chg.refl (fun j => j = g) _).set (p := ⟨g, 1, none⟩) (fun _ => rfl) v
  have r1 : Rd (wr.setCell ⟨p, k, none⟩ (.int .i64 ((q : Int) - 1))) B g A n c b at' false := h.rd.chg c1 (fun j hj => hj ▸ hB) (fun e => hpg e.symm)
  have b1 := blk_set h.blk k (.int .i64 ((q : Int) - 1))
  have e0 := ints_set us u ((q : Int) - 1) (vs.drop (k + 1)) r
  rw [h.len] at e0
  rw [h1, e0] at b1
  refine ⟨by rw [List.length_append, h.len]; rfl, ?_, r1.setAt (q := at' + 6) hle, ?_, (h.chg.trans c1 (fun _ h _ => .inr h)).trans (c2 _) (fun _ h _ => .inl h), ?_⟩
  · intro x hx
    rcases List.mem_append.1 hx with hx | hx
    · exact h.wf x hx
    · rw [List.mem_singleton.1 hx]
      exact int_wf (by omega) (by omega)
  · exact (c2 (.int .i64 ((at' : Int) + 6))).blk b1 hpg
  · rw [rdList_step h.eq, left_some, left_some, Option.bind_some, show rdNum (b.drop at') = some ((val ((b.drop at').take 6) : Int) - 1, (b.drop at').drop 6) by
      unfold rdNum
      rw [if_neg (by have := h.rd.row.1; rw [List.length_drop]; omega)], Option.map_some, Option.map_some, List.drop_drop, ← hq]
set_option maxHeartbeats 2000000 in
set_option maxRecDepth 100000 in
theorem num_r {w : World} {R : Nat → Prop} {B g p tp : Nat} {A L : Option Addr} {n c cl : Nat} {b : List UInt8} {at_ : Nat} {bad : Bool} {vs : List Int} {r : List Value} (h : Rd w B g A n c b at_ bad) (hl : Sees w R L (ptrs p vs.length)) (hR : ∀ k, R k → k ≠ g ∧ k ≠ p)
    (hp : w.heap[p]? = some (.cells (ints vs ++ r).toArray tp (0, 0))) (hpB : B ≤ p) (hpg : p ≠ g) (hwf : ∀ u ∈ vs, (Lit.int .i64 u).wf = true) (hn : n ≤ 1000000000) (hm : vs.length ≤ 7) :
    Calls Try.prog 55 #[.pointer (some ⟨g, 0, none⟩), .slice L vs.length cl] w fun e w' => e = .returned (.tuple #[]) ∧ NumsTo w B g A n c b at_ bad p tp vs.length r w' := by
  have H := hid h
  have HL := hid hl
  have HR := hid hR
  have HP := hid hp
  have HWF := hid hwf
  obtain ⟨m, hml⟩ : ∃ m, m = vs.length := ⟨_, rfl⟩
  have HML := hid hml
  rw [← hml] at hm ⊢
  have hm2 : (m : Int) ≤ 7 := by omega
  have hn2 : (n : Int) ≤ 1000000000 := by omega
  clear h hl hR hp hwf hml
  go_enter Try.func55, Try.ntmps55
  go_wp2_with fail
  go_loopw [12] (fun i wr => ∃ (k : Nat) (us : List Int) (at' : Nat) (bad' : Bool), k ≤ m ∧ i = .int .i64 k ∧ NumsAt w B g A n c b at_ bad p tp vs r k us at' bad' wr) (fun i _ => m - (intOf i).toNat)
  case atStart => exact ⟨0, [], at_, bad, Nat.zero_le _, rfl, rfl, by simp, H.out, HP.out, Chg.refl _ _, by cases bad <;> simp [left, rdList]⟩
  case round =>
    obtain ⟨k, us, at', bad', hk, rfl, hT⟩ := hrel
    have HT := hid hT
    clear hT
    by_cases hlt : k < m
    · have hlt2 : (k : Int) < (m : Int) := by omega
      obtain ⟨a, hL, ha⟩ : ∃ a, L = some a ∧ wr.cell? (a.add k) = some (.pointer (some ⟨p, k, none⟩)) := by
        rcases HL.out with h | ⟨a, hA, hS, hx⟩
        · exfalso
          have := congrArg List.length h
          rw [ptrs_length] at this
          have := HML.out
          have e0 : ([] : List Value).length = 0 := rfl
          omega
        · exact ⟨a, hA, HT.out.chg.cell (hx k _ (ptrs_at (by have := HML.out; omega))) (by rw [add_block]; exact fun h => by have := HR.out _ hS; omega)⟩
      subst hL
      obtain ⟨d0, d1, d2, d3⟩ := HT.out.rd.cells
      have f3 : wr.frozen? ⟨g, 3, none⟩ = false := freeAt HT.out.rd.blk 3
      have hc0 : ∀ wx, Chg (fun _ => False) wr wx → wx.cell? ⟨g, 0, none⟩ = some (.slice A n c) := fun wx hx => hx.cell d0 (fun h => h)
      have hc1 : ∀ wx, Chg (fun _ => False) wr wx → wx.cell? ⟨g, 1, none⟩ = some (.int .i64 (at' : Int)) := fun wx hx => hx.cell d1 (fun h => h)
      go_wp2_with fail
      cases bad' with
      | true =>
        have hc3 : ∀ wx, Chg (fun _ => False) wr wx → wx.cell? ⟨g, 3, none⟩ = some (.bool true) := fun wx hx => hx.cell d3 (fun h => h)
        have f3' : wr.drew.frozen? ⟨g, 3, none⟩ = false := f3
        refine wpB_start (fun wx : World => Chg (fun _ => False) wr wx) (by kernel_rfl) ?_
        have hHeld : (fun wx : World => Chg (fun _ => False) wr wx) _ := (by first | assumption | exact Chg.drew (Chg.refl _ _) | (show _ ∧ _; refine ⟨?_, ?_⟩ <;> assumption) | first | assumption | exact Chg.alloc hHeld _)
        -- 0: t40 := move t0 : 73
        refine wpB_take (i := 0) (v := ?_) (get_of_drop rfl) (by kernel_rfl) (by kernel_rfl) (by kernel_rfl) (by kernel_rfl) (fun _ _ _ h => h) (Or.inl ⟨by rfl, ?_⟩) hHeld ?_
        rotate_left
        · (intro w hSw; (try dsimp only at hSw); go_simp <;> with_reducible rfl)
        try simp only [Act.put, List.setIfInBounds_toArray, List.set_cons_zero, List.set_cons_succ]
        -- 1: t41 := move t0 : 73
        refine wpB_take (i := 1) (v := ?_) (get_of_drop rfl) (by kernel_rfl) (by kernel_rfl) (by kernel_rfl) (by kernel_rfl) (fun _ _ _ h => h) (Or.inl ⟨by rfl, ?_⟩) hHeld ?_
        rotate_left
        · (intro w hSw; (try dsimp only at hSw); go_simp <;> with_reducible rfl)
        try simp only [Act.put, List.setIfInBounds_toArray, List.set_cons_zero, List.set_cons_succ]
        -- 2: t42 := nilCheck t41 : 0
        refine wpB_take (i := 2) (v := ?_) (get_of_drop rfl) (by kernel_rfl) (by kernel_rfl) (by kernel_rfl) (by kernel_rfl) (fun _ _ _ h => h) (Or.inl ⟨by rfl, ?_⟩) hHeld ?_
        rotate_left
        · (intro w hSw; (try dsimp only at hSw); go_simp <;> with_reducible rfl)
        try simp only [Act.put, List.setIfInBounds_toArray, List.set_cons_zero, List.set_cons_succ]
        -- 3: t43 := fieldAddr 75 t42 3 : 0
        refine wpB_take (i := 3) (v := ?_) (get_of_drop rfl) (by kernel_rfl) (by kernel_rfl) (by kernel_rfl) (by kernel_rfl) (fun _ _ _ h => h) (Or.inl ⟨by rfl, ?_⟩) hHeld ?_
        rotate_left
        · (intro w hSw; (try dsimp only at hSw); go_simp <;> with_reducible rfl)
        try simp only [Act.put, List.setIfInBounds_toArray, List.set_cons_zero, List.set_cons_succ]
        -- 4: t44 := load 4 t43 : 4
        refine wpB_take (i := 4) (v := ?_) (get_of_drop rfl) (by kernel_rfl) (by kernel_rfl) (by kernel_rfl) (by kernel_rfl) (fun _ _ _ h => h) (Or.inl ⟨by rfl, ?_⟩) hHeld ?_
        rotate_left
        · (intro w hSw; (try dsimp only at hSw); go_simp <;> with_reducible rfl)
        try simp only [Act.put, List.setIfInBounds_toArray, List.set_cons_zero, List.set_cons_succ]
        -- 5: t45 := move t44 : 4
        refine wpB_take (i := 5) (v := ?_) (get_of_drop rfl) (by kernel_rfl) (by kernel_rfl) (by kernel_rfl) (by kernel_rfl) (fun _ _ _ h => h) (Or.inl ⟨by rfl, ?_⟩) hHeld ?_
        rotate_left
        · (intro w hSw; (try dsimp only at hSw); go_simp <;> with_reducible rfl)
        try simp only [Act.put, List.setIfInBounds_toArray, List.set_cons_zero, List.set_cons_succ]
        -- 6: t46 := move t0 : 73   [if ⟨5, false⟩]
        refine wpB_take (i := 6) (v := undef) (get_of_drop rfl) (by kernel_rfl) (by kernel_rfl) (by kernel_rfl) (by kernel_rfl) (fun _ _ _ h => h) (Or.inr ⟨by rfl, rfl⟩) hHeld ?_
        try simp only [Act.put, List.setIfInBounds_toArray, List.set_cons_zero, List.set_cons_succ]
        -- 7: t47 := nilCheck t46 : 0   [if ⟨5, false⟩]
        refine wpB_take (i := 7) (v := undef) (get_of_drop rfl) (by kernel_rfl) (by kernel_rfl) (by kernel_rfl) (by kernel_rfl) (fun _ _ _ h => h) (Or.inr ⟨by rfl, rfl⟩) hHeld ?_
        try simp only [Act.put, List.setIfInBounds_toArray, List.set_cons_zero, List.set_cons_succ]
        -- 8: t48 := fieldAddr 75 t47 0 : 0   [if ⟨5, false⟩]
        refine wpB_take (i := 8) (v := undef) (get_of_drop rfl) (by kernel_rfl) (by kernel_rfl) (by kernel_rfl) (by kernel_rfl) (fun _ _ _ h => h) (Or.inr ⟨by rfl, rfl⟩) hHeld ?_
        try simp only [Act.put, List.setIfInBounds_toArray, List.set_cons_zero, List.set_cons_succ]
        -- 9: t49 := load 25 t48 : 25   [if ⟨5, false⟩]
        refine wpB_take (i := 9) (v := undef) (get_of_drop rfl) (by kernel_rfl) (by kernel_rfl) (by kernel_rfl) (by kernel_rfl) (fun _ _ _ h => h) (Or.inr ⟨by rfl, rfl⟩) hHeld ?_
        try simp only [Act.put, List.setIfInBounds_toArray, List.set_cons_zero, List.set_cons_succ]
        -- 10: t50 := len(t49) types [25] : 3   [if ⟨5, false⟩]
        refine wpB_take (i := 10) (v := undef) (get_of_drop rfl) (by kernel_rfl) (by kernel_rfl) (by kernel_rfl) (by kernel_rfl) (fun _ _ _ h => h) (Or.inr ⟨by rfl, rfl⟩) hHeld ?_
        try simp only [Act.put, List.setIfInBounds_toArray, List.set_cons_zero, List.set_cons_succ]
        -- 11: t51 := move t0 : 73   [if ⟨5, false⟩]
        refine wpB_take (i := 11) (v := undef) (get_of_drop rfl) (by kernel_rfl) (by kernel_rfl) (by kernel_rfl) (by kernel_rfl) (fun _ _ _ h => h) (Or.inr ⟨by rfl, rfl⟩) hHeld ?_
        try simp only [Act.put, List.setIfInBounds_toArray, List.set_cons_zero, List.set_cons_succ]
        -- 12: t52 := nilCheck t51 : 0   [if ⟨5, false⟩]
        refine wpB_take (i := 12) (v := undef) (get_of_drop rfl) (by kernel_rfl) (by kernel_rfl) (by kernel_rfl) (by kernel_rfl) (fun _ _ _ h => h) (Or.inr ⟨by rfl, rfl⟩) hHeld ?_
        try simp only [Act.put, List.setIfInBounds_toArray, List.set_cons_zero, List.set_cons_succ]
        -- 13: t53 := fieldAddr 75 t52 1 : 0   [if ⟨5, false⟩]
        refine wpB_take (i := 13) (v := undef) (get_of_drop rfl) (by kernel_rfl) (by kernel_rfl) (by kernel_rfl) (by kernel_rfl) (fun _ _ _ h => h) (Or.inr ⟨by rfl, rfl⟩) hHeld ?_
        try simp only [Act.put, List.setIfInBounds_toArray, List.set_cons_zero, List.set_cons_succ]
        -- 14: t54 := load 3 t53 : 3   [if ⟨5, false⟩]
        refine wpB_take (i := 14) (v := undef) (get_of_drop rfl) (by kernel_rfl) (by kernel_rfl) (by kernel_rfl) (by kernel_rfl) (fun _ _ _ h => h) (Or.inr ⟨by rfl, rfl⟩) hHeld ?_
        try simp only [Act.put, List.setIfInBounds_toArray, List.set_cons_zero, List.set_cons_succ]
        -- 15: t55 := binOp BinOp.sub 3 t50 t54 3 : 3   [if ⟨5, false⟩]
        refine wpB_take (i := 15) (v := undef) (get_of_drop rfl) (by kernel_rfl) (by kernel_rfl) (by kernel_rfl) (by kernel_rfl) (fun _ _ _ h => h) (Or.inr ⟨by rfl, rfl⟩) hHeld ?_
        try simp only [Act.put, List.setIfInBounds_toArray, List.set_cons_zero, List.set_cons_succ]
        -- 16: t56 := binOp BinOp.lss 3 t55 #i64:6 3 : 4   [if ⟨5, false⟩]
        refine wpB_take (i := 16) (v := undef) (get_of_drop rfl) (by kernel_rfl) (by kernel_rfl) (by kernel_rfl) (by kernel_rfl) (fun _ _ _ h => h) (Or.inr ⟨by rfl, rfl⟩) hHeld ?_
        try simp only [Act.put, List.setIfInBounds_toArray, List.set_cons_zero, List.set_cons_succ]
        -- 17: t57 := pick t45 #true t56 : 4
        refine wpB_take (i := 17) (v := ?_) (get_of_drop rfl) (by kernel_rfl) (by kernel_rfl) (by kernel_rfl) (by kernel_rfl) (fun _ _ _ h => h) (Or.inl ⟨by rfl, ?_⟩) hHeld ?_
        rotate_left
        · (intro w hSw; (try dsimp only at hSw); go_simp <;> with_reducible rfl)
        try simp only [Act.put, List.setIfInBounds_toArray, List.set_cons_zero, List.set_cons_succ]
        -- 18: t58 := nilCheck t40 : 0
        refine wpB_take (i := 18) (v := ?_) (get_of_drop rfl) (by kernel_rfl) (by kernel_rfl) (by kernel_rfl) (by kernel_rfl) (fun _ _ _ h => h) (Or.inl ⟨by rfl, ?_⟩) hHeld ?_
        rotate_left
        · (intro w hSw; (try dsimp only at hSw); go_simp <;> with_reducible rfl)
        try simp only [Act.put, List.setIfInBounds_toArray, List.set_cons_zero, List.set_cons_succ]
        -- 19: t59 := fieldAddr 75 t58 3 : 0
        refine wpB_take (i := 19) (v := ?_) (get_of_drop rfl) (by kernel_rfl) (by kernel_rfl) (by kernel_rfl) (by kernel_rfl) (fun _ _ _ h => h) (Or.inl ⟨by rfl, ?_⟩) hHeld ?_
        rotate_left
        · (intro w hSw; (try dsimp only at hSw); go_simp <;> with_reducible rfl)
        try simp only [Act.put, List.setIfInBounds_toArray, List.set_cons_zero, List.set_cons_succ]
        -- 20: t- := store 4 t59 t57 : 0 (BARRIER)
        refine wpB_bar (i := 20) (by kernel_rfl) (get_of_drop rfl) (by kernel_rfl) (fun K hK => ?_)
        go_simp
        refine hK.out _ _ (fun _ : World => True) ?_
        clear hHeld hK K
        have hHeld := trivial
        try simp only [Act.put, List.setIfInBounds_toArray, List.set_cons_zero, List.set_cons_succ]
        refine wpB_done (by kernel_rfl) ?_ _
        clear hHeld hc0 hc1 hc3 f3'
        obtain ⟨w2, hw2⟩ : ∃ w2, w2 = (wr.setCell ⟨g, 3, none⟩ (.bool true)).drew := ⟨_, rfl⟩
        rw [← hw2]
        have HT2 := hid (HT.out.bad hpg hw2)
        have e3 := HT2.out.rd.cells.2.2.2
        clear hw2
        go_wp2_with fail
        refine bodyPost_ret (results_none rfl _ _ _) rfl ?_
        exact ⟨rfl, HT2.out.stop HML.out HWF.out (by omega)⟩
      | false =>
        have hc3 : ∀ wx, Chg (fun _ => False) wr wx → wx.cell? ⟨g, 3, none⟩ = some (.bool false) := fun wx hx => hx.cell d3 (fun h => h)
        have f3' : wr.drew.frozen? ⟨g, 3, none⟩ = false := f3
        have hle := HT.out.rd.le
        have e6 : IntKind.i64.wrap ((n : Int) - (at' : Int)) = (n : Int) - (at' : Int) := IntWalk.i64_in _ (by omega)
        refine wpB_start (fun wx : World => Chg (fun _ => False) wr wx) (by kernel_rfl) ?_
        have hHeld : (fun wx : World => Chg (fun _ => False) wr wx) _ := (by first | assumption | exact Chg.drew (Chg.refl _ _) | (show _ ∧ _; refine ⟨?_, ?_⟩ <;> assumption) | first | assumption | exact Chg.alloc hHeld _)
        -- 0: t40 := move t0 : 73
        refine wpB_take (i := 0) (v := ?_) (get_of_drop rfl) (by kernel_rfl) (by kernel_rfl) (by kernel_rfl) (by kernel_rfl) (fun _ _ _ h => h) (Or.inl ⟨by rfl, ?_⟩) hHeld ?_
        rotate_left
        · (intro w hSw; (try dsimp only at hSw); go_simp <;> with_reducible rfl)
        try simp only [Act.put, List.setIfInBounds_toArray, List.set_cons_zero, List.set_cons_succ]
        -- 1: t41 := move t0 : 73
        refine wpB_take (i := 1) (v := ?_) (get_of_drop rfl) (by kernel_rfl) (by kernel_rfl) (by kernel_rfl) (by kernel_rfl) (fun _ _ _ h => h) (Or.inl ⟨by rfl, ?_⟩) hHeld ?_
        rotate_left
        · (intro w hSw; (try dsimp only at hSw); go_simp <;> with_reducible rfl)
        try simp only [Act.put, List.setIfInBounds_toArray, List.set_cons_zero, List.set_cons_succ]
        -- 2: t42 := nilCheck t41 : 0
        refine wpB_take (i := 2) (v := ?_) (get_of_drop rfl) (by kernel_rfl) (by kernel_rfl) (by kernel_rfl) (by kernel_rfl) (fun _ _ _ h => h) (Or.inl ⟨by rfl, ?_⟩) hHeld ?_
        rotate_left
        · (intro w hSw; (try dsimp only at hSw); go_simp <;> with_reducible rfl)
        try simp only [Act.put, List.setIfInBounds_toArray, List.set_cons_zero, List.set_cons_succ]
        -- 3: t43 := fieldAddr 75 t42 3 : 0
        refine wpB_take (i := 3) (v := ?_) (get_of_drop rfl) (by kernel_rfl) (by kernel_rfl) (by kernel_rfl) (by kernel_rfl) (fun _ _ _ h => h) (Or.inl ⟨by rfl, ?_⟩) hHeld ?_
        rotate_left
        · (intro w hSw; (try dsimp only at hSw); go_simp <;> with_reducible rfl)
        try simp only [Act.put, List.setIfInBounds_toArray, List.set_cons_zero, List.set_cons_succ]
        -- 4: t44 := load 4 t43 : 4
        refine wpB_take (i := 4) (v := ?_) (get_of_drop rfl) (by kernel_rfl) (by kernel_rfl) (by kernel_rfl) (by kernel_rfl) (fun _ _ _ h => h) (Or.inl ⟨by rfl, ?_⟩) hHeld ?_
        rotate_left
        · (intro w hSw; (try dsimp only at hSw); go_simp <;> with_reducible rfl)
        try simp only [Act.put, List.setIfInBounds_toArray, List.set_cons_zero, List.set_cons_succ]
        -- 5: t45 := move t44 : 4
        refine wpB_take (i := 5) (v := ?_) (get_of_drop rfl) (by kernel_rfl) (by kernel_rfl) (by kernel_rfl) (by kernel_rfl) (fun _ _ _ h => h) (Or.inl ⟨by rfl, ?_⟩) hHeld ?_
        rotate_left
        · (intro w hSw; (try dsimp only at hSw); go_simp <;> with_reducible rfl)
        try simp only [Act.put, List.setIfInBounds_toArray, List.set_cons_zero, List.set_cons_succ]
        -- 6: t46 := move t0 : 73   [if ⟨5, false⟩]
        refine wpB_take (i := 6) (v := ?_) (get_of_drop rfl) (by kernel_rfl) (by kernel_rfl) (by kernel_rfl) (by kernel_rfl) (fun _ _ _ h => h) (Or.inl ⟨by rfl, ?_⟩) hHeld ?_
        rotate_left
        · (intro w hSw; (try dsimp only at hSw); go_simp <;> with_reducible rfl)
        try simp only [Act.put, List.setIfInBounds_toArray, List.set_cons_zero, List.set_cons_succ]
        -- 7: t47 := nilCheck t46 : 0   [if ⟨5, false⟩]
        refine wpB_take (i := 7) (v := ?_) (get_of_drop rfl) (by kernel_rfl) (by kernel_rfl) (by kernel_rfl) (by kernel_rfl) (fun _ _ _ h => h) (Or.inl ⟨by rfl, ?_⟩) hHeld ?_
        rotate_left
        · (intro w hSw; (try dsimp only at hSw); go_simp <;> with_reducible rfl)
        try simp only [Act.put, List.setIfInBounds_toArray, List.set_cons_zero, List.set_cons_succ]
        -- 8: t48 := fieldAddr 75 t47 0 : 0   [if ⟨5, false⟩]
        refine wpB_take (i := 8) (v := ?_) (get_of_drop rfl) (by kernel_rfl) (by kernel_rfl) (by kernel_rfl) (by kernel_rfl) (fun _ _ _ h => h) (Or.inl ⟨by rfl, ?_⟩) hHeld ?_
        rotate_left
        · (intro w hSw; (try dsimp only at hSw); go_simp <;> with_reducible rfl)
        try simp only [Act.put, List.setIfInBounds_toArray, List.set_cons_zero, List.set_cons_succ]
        -- 9: t49 := load 25 t48 : 25   [if ⟨5, false⟩]
        refine wpB_take (i := 9) (v := ?_) (get_of_drop rfl) (by kernel_rfl) (by kernel_rfl) (by kernel_rfl) (by kernel_rfl) (fun _ _ _ h => h) (Or.inl ⟨by rfl, ?_⟩) hHeld ?_
        rotate_left
        · (intro w hSw; (try dsimp only at hSw); go_simp <;> with_reducible rfl)
        try simp only [Act.put, List.setIfInBounds_toArray, List.set_cons_zero, List.set_cons_succ]
        -- 10: t50 := len(t49) types [25] : 3   [if ⟨5, false⟩]
        refine wpB_take (i := 10) (v := ?_) (get_of_drop rfl) (by kernel_rfl) (by kernel_rfl) (by kernel_rfl) (by kernel_rfl) (fun _ _ _ h => h) (Or.inl ⟨by rfl, ?_⟩) hHeld ?_
        rotate_left
        · (intro w hSw; (try dsimp only at hSw); go_simp <;> with_reducible rfl)
        try simp only [Act.put, List.setIfInBounds_toArray, List.set_cons_zero, List.set_cons_succ]
        -- 11: t51 := move t0 : 73   [if ⟨5, false⟩]
        refine wpB_take (i := 11) (v := ?_) (get_of_drop rfl) (by kernel_rfl) (by kernel_rfl) (by kernel_rfl) (by kernel_rfl) (fun _ _ _ h => h) (Or.inl ⟨by rfl, ?_⟩) hHeld ?_
        rotate_left
        · (intro w hSw; (try dsimp only at hSw); go_simp <;> with_reducible rfl)
        try simp only [Act.put, List.setIfInBounds_toArray, List.set_cons_zero, List.set_cons_succ]
        -- 12: t52 := nilCheck t51 : 0   [if ⟨5, false⟩]
        refine wpB_take (i := 12) (v := ?_) (get_of_drop rfl) (by kernel_rfl) (by kernel_rfl) (by kernel_rfl) (by kernel_rfl) (fun _ _ _ h => h) (Or.inl ⟨by rfl, ?_⟩) hHeld ?_
        rotate_left
        · (intro w hSw; (try dsimp only at hSw); go_simp <;> with_reducible rfl)
        try simp only [Act.put, List.setIfInBounds_toArray, List.set_cons_zero, List.set_cons_succ]
        -- 13: t53 := fieldAddr 75 t52 1 : 0   [if ⟨5, false⟩]
        refine wpB_take (i := 13) (v := ?_) (get_of_drop rfl) (by kernel_rfl) (by kernel_rfl) (by kernel_rfl) (by kernel_rfl) (fun _ _ _ h => h) (Or.inl ⟨by rfl, ?_⟩) hHeld ?_
        rotate_left
        · (intro w hSw; (try dsimp only at hSw); go_simp <;> with_reducible rfl)
        try simp only [Act.put, List.setIfInBounds_toArray, List.set_cons_zero, List.set_cons_succ]
        -- 14: t54 := load 3 t53 : 3   [if ⟨5, false⟩]
        refine wpB_take (i := 14) (v := ?_) (get_of_drop rfl) (by kernel_rfl) (by kernel_rfl) (by kernel_rfl) (by kernel_rfl) (fun _ _ _ h => h) (Or.inl ⟨by rfl, ?_⟩) hHeld ?_
        rotate_left
        · (intro w hSw; (try dsimp only at hSw); go_simp <;> with_reducible rfl)
        try simp only [Act.put, List.setIfInBounds_toArray, List.set_cons_zero, List.set_cons_succ]
        -- 15: t55 := binOp BinOp.sub 3 t50 t54 3 : 3   [if ⟨5, false⟩]
        refine wpB_take (i := 15) (v := ?_) (get_of_drop rfl) (by kernel_rfl) (by kernel_rfl) (by kernel_rfl) (by kernel_rfl) (fun _ _ _ h => h) (Or.inl ⟨by rfl, ?_⟩) hHeld ?_
        rotate_left
        · (intro w hSw; (try dsimp only at hSw); go_simp <;> with_reducible rfl)
        try simp only [Act.put, List.setIfInBounds_toArray, List.set_cons_zero, List.set_cons_succ]
        -- 16: t56 := binOp BinOp.lss 3 t55 #i64:6 3 : 4   [if ⟨5, false⟩]
        refine wpB_take (i := 16) (v := ?_) (get_of_drop rfl) (by kernel_rfl) (by kernel_rfl) (by kernel_rfl) (by kernel_rfl) (fun _ _ _ h => h) (Or.inl ⟨by rfl, ?_⟩) hHeld ?_
        rotate_left
        · (intro w hSw; (try dsimp only at hSw); go_simp <;> with_reducible rfl)
        try simp only [Act.put, List.setIfInBounds_toArray, List.set_cons_zero, List.set_cons_succ]
        -- 17: t57 := pick t45 #true t56 : 4
        refine wpB_take (i := 17) (v := ?_) (get_of_drop rfl) (by kernel_rfl) (by kernel_rfl) (by kernel_rfl) (by kernel_rfl) (fun _ _ _ h => h) (Or.inl ⟨by rfl, ?_⟩) hHeld ?_
        rotate_left
        · (intro w hSw; (try dsimp only at hSw); go_simp <;> with_reducible rfl)
        try simp only [Act.put, List.setIfInBounds_toArray, List.set_cons_zero, List.set_cons_succ]
        -- 18: t58 := nilCheck t40 : 0
        refine wpB_take (i := 18) (v := ?_) (get_of_drop rfl) (by kernel_rfl) (by kernel_rfl) (by kernel_rfl) (by kernel_rfl) (fun _ _ _ h => h) (Or.inl ⟨by rfl, ?_⟩) hHeld ?_
        rotate_left
        · (intro w hSw; (try dsimp only at hSw); go_simp <;> with_reducible rfl)
        try simp only [Act.put, List.setIfInBounds_toArray, List.set_cons_zero, List.set_cons_succ]
        -- 19: t59 := fieldAddr 75 t58 3 : 0
        refine wpB_take (i := 19) (v := ?_) (get_of_drop rfl) (by kernel_rfl) (by kernel_rfl) (by kernel_rfl) (by kernel_rfl) (fun _ _ _ h => h) (Or.inl ⟨by rfl, ?_⟩) hHeld ?_
        rotate_left
        · (intro w hSw; (try dsimp only at hSw); go_simp <;> with_reducible rfl)
        try simp only [Act.put, List.setIfInBounds_toArray, List.set_cons_zero, List.set_cons_succ]
        -- 20: t- := store 4 t59 t57 : 0 (BARRIER)
        refine wpB_bar (i := 20) (by kernel_rfl) (get_of_drop rfl) (by kernel_rfl) (fun K hK => ?_)
        go_simp
        refine hK.out _ _ (fun _ : World => True) ?_
        clear hHeld hK K
        have hHeld := trivial
        try simp only [Act.put, List.setIfInBounds_toArray, List.set_cons_zero, List.set_cons_succ]
        refine wpB_done (by kernel_rfl) ?_ _
        clear hHeld hc0 hc1 hc3 f3'
        by_cases h6 : (n : Int) - (at' : Int) < 6
        · rw [decide_eq_true h6]
          obtain ⟨w2, hw2⟩ : ∃ w2, w2 = (wr.setCell ⟨g, 3, none⟩ (.bool true)).drew := ⟨_, rfl⟩
          rw [← hw2]
          have HT2 := hid (HT.out.short HML.out HWF.out hlt hpg (by omega) hw2)
          have e3 := HT2.out.1.cells.2.2.2
          clear hw2
          go_wp2_with fail
          refine bodyPost_ret (results_none rfl _ _ _) rfl ?_
          exact ⟨rfl, HT2.out.2⟩
        · rw [decide_eq_false h6]
          obtain ⟨w2, hw2⟩ : ∃ w2, w2 = (wr.setCell ⟨g, 3, none⟩ (.bool false)).drew := ⟨_, rfl⟩
          rw [← hw2]
          have HT2 := hid (HT.out.bad hpg hw2)
          obtain ⟨e0, e1, e2, e3⟩ := HT2.out.rd.cells
          obtain ⟨A6, c6, hcut, hat⟩ := Ty.At.mid_ (P := Try.prog) (d := Ty.u8) Try.underlying25 info5 A n c at' (at' + 6) 6 (at' : Int) ((at' : Int) + 6) rfl (by omega) (by omega) (by omega) HT.out.rd.row.2.1 (by omega)
          have ew : IntKind.i64.wrap ((at' : Int) + 6) = (at' : Int) + 6 := IntWalk.i64_in _ (by omega)
          clear hw2
          go_wp2_with fail
          go_quiet (fail)
          clear ew
          have H3 := hid (show NumsAt w B g A n c b at_ bad p tp vs r k us at' false (w2.drewN nq) from HT2.out.drewN nq)
          obtain ⟨w3, hw3⟩ : ∃ w3, w3 = w2.drewN nq := ⟨_, rfl⟩
          rw [← hw3] at H3 ⊢
          have HX := hid (hat w3 _ b H3.out.rd.row)
          have H6 := hid (six_drop H3.out.rd.row.1 (show at' + 6 ≤ n by omega))
          clear hw3 hcut hat HT2 e0 e1 e2 e3 f3 d0 d1 d2 d3
          go_wp2_with fail
          go_loop [7, 79] (fun acc i => ∃ j : Nat, j ≤ 6 ∧ i = .int .i64 j ∧ acc = .int .i64 (val (((b.drop at').take 6).take j) : Int)) (fun _ i => 6 - (intOf i).toNat)
          case atStart => exact ⟨0, Nat.zero_le _, rfl, rfl⟩
          case round =>
            obtain ⟨j, hj, rfl, rfl⟩ := hrel
            obtain ⟨q, hq⟩ : ∃ q, q = val (((b.drop at').take 6).take j) := ⟨_, rfl⟩
            have HQ := hid hq
            have hq48 : q < 281474976710656 := by rw [hq]; exact val_take_lt _ hj
            rw [← hq]
            clear hq
            by_cases hjl : j < 6
            · obtain ⟨y, hy⟩ : ∃ y, ((b.take (at' + 6)).drop at')[j]? = some y := ⟨_, List.getElem?_eq_getElem (by have := HX.out.1; omega)⟩
              obtain ⟨a6, ha6, _, hc6⟩ := Ty.byteAt HX.out hy
              subst ha6
              have hyl := y.toNat_lt
              have HY := hid hy
              have hq40 : q < 1099511627776 := by rw [HQ.out]; exact val_take_lt2 _ hjl
              have hsh : bits BinOp.or IntKind.i64 ((q : Int) * 256) (y.toNat : Int) = ((q * 256 + y.toNat : Nat) : Int) := by
                have := join64 8 (q * 256) y.toNat (by omega) (by omega) (by omega) (by omega)
                rw [← this]
                simp
              clear hy hq48
              go_wp2
              go_round
              case measure => simp [intOf]; omega
              case rel =>
                refine ⟨j + 1, by omega, by go_num, ?_⟩
                rw [List.take_add_one, ← H6.out.1, HY.out, Option.toList_some, val_snoc, H6.out.1, ← HQ.out]
                rfl
            · obtain rfl : j = 6 := by omega
              have ev : IntKind.i64.wrap ((q : Int) - 1) = (q : Int) - 1 := IntWalk.i64_in _ (by omega)
              have ea : IntKind.i64.wrap ((at' : Int) + 6) = (at' : Int) + 6 := IntWalk.i64_in _ (by omega)
              obtain ⟨e0, e1, e2, e3⟩ := H3.out.rd.cells
              have f1 : w3.frozen? ⟨g, 1, none⟩ = false := freeAt H3.out.rd.blk 1
              have fp : w3.frozen? ⟨p, k, none⟩ = false := freeAt H3.out.blk k
              obtain ⟨u0, ep⟩ := H3.out.cell HML.out hlt
              have HN := hid (H3.out.step HML.out hlt hpg hpB (show at' + 6 ≤ n by omega) (show q = val ((b.drop at').take 6) by rw [HQ.out, List.take_take]; rfl) (by omega))
              go_wp2_with fail
              go_roundw
              case measure => simp [intOf]; omega
              case rel => first | exact ⟨k + 1, _, _, _, hlt, by go_num, HN.out⟩ | ((repeat apply Exists.intro); exact ⟨⟨k + 1, _, _, _, hlt, by go_num, HN.out⟩, rfl⟩)
    · go_wp2_with fail
      go_end0
      obtain rfl : k = m := by omega
      exact ⟨rfl, HT.out.whole HML.out⟩
end Go.Proofs.Ytcmfgijdelaelaa.Pa
