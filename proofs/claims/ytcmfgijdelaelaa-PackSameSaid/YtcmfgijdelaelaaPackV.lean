
/- The document's reader: its num and count. -/

import Derived.Test.YtcmfgijdelaelaaPackF

namespace Go.Proofs.Ytcmfgijdelaelaa.Pa

set_option linter.unusedVariables false

set_option linter.unusedSimpArgs false

open Go.RowKit Go.Proofs.Ytcmfgijdelaelaa.C

attribute [local go_sem] max2_int min2_int max_two min_two

/-- The document's reader, at block g, of the bytes b, which lie below B. -/
structure Rf (w : World) (B g : Nat) (A : Option Addr) (n c : Nat) (b : List UInt8) (at_ : Nat) (bad : Bool) : Prop where
  low : B ≤ g
  blk : w.heap[g]? = some (.cells #[.slice A n c, .int .i64 (at_ : Int), .bool bad] 87 (0, 0))
  row : Ty.At Ty.u8 w (fun k => k < B) A n c b
  le : at_ ≤ n
theorem Rf.cells {w : World} {B g : Nat} {A : Option Addr} {n c : Nat} {b : List UInt8} {at_ : Nat} {bad : Bool} (h : Rf w B g A n c b at_ bad) :
    w.cell? ⟨g, 0, none⟩ = some (.slice A n c) ∧ w.cell? ⟨g, 1, none⟩ = some (.int .i64 (at_ : Int)) ∧ w.cell? ⟨g, 2, none⟩ = some (.bool bad) := by
  refine ⟨?_, ?_, ?_⟩ <;> (rw [cellAt h.blk]; rfl)
theorem Rf.lt {w : World} {B g : Nat} {A : Option Addr} {n c : Nat} {b : List UInt8} {at_ : Nat} {bad : Bool} (h : Rf w B g A n c b at_ bad) : g < w.heap.size := lt_of_blk h.blk
theorem Rf.chg {w w' : World} {B g : Nat} {A : Option Addr} {n c : Nat} {b : List UInt8} {at_ : Nat} {bad : Bool} {M : Nat → Prop} (h : Rf w B g A n c b at_ bad) (hc : Chg M w w') (hM : ∀ k, M k → B ≤ k) (hg : ¬ M g) : Rf w' B g A n c b at_ bad :=
  ⟨h.low, hc.blk h.blk hg, h.row.chg hc (fun k hk hm => by have := hM k hm; omega), h.le⟩
theorem Rf.drewN {w : World} {B g : Nat} {A : Option Addr} {n c : Nat} {b : List UInt8} {at_ : Nat} {bad : Bool} (h : Rf w B g A n c b at_ bad) (q : Nat) : Rf (w.drewN q) B g A n c b at_ bad := h.chg ((Chg.refl (fun _ => False) w).drewN q) (fun _ h => h.elim) (fun h => h)
theorem Rf.setBad {w : World} {B g : Nat} {A : Option Addr} {n c : Nat} {b : List UInt8} {at_ : Nat} {bad : Bool} (h : Rf w B g A n c b at_ bad) (y : Bool) : Rf (w.setCell ⟨g, 2, none⟩ (.bool y)) B g A n c b at_ y :=
  ⟨h.low, blk_set h.blk 2 _, h.row.chg ((Chg.refl (fun k => k = g) w).set (p := ⟨g, 2, none⟩) (fun _ => rfl) _) (fun k hk e => by have := h.low; subst e; omega), h.le⟩
theorem Rf.setAt {w : World} {B g : Nat} {A : Option Addr} {n c : Nat} {b : List UInt8} {at_ : Nat} {bad : Bool} (h : Rf w B g A n c b at_ bad) {q : Nat} (hq : q ≤ n) : Rf (w.setCell ⟨g, 1, none⟩ (.int .i64 (q : Int))) B g A n c b q bad :=
  ⟨h.low, blk_set h.blk 1 _, h.row.chg ((Chg.refl (fun k => k = g) w).set (p := ⟨g, 1, none⟩) (fun _ => rfl) _) (fun k hk e => by have := h.low; subst e; omega), hq⟩
theorem chg_at (g i : Nat) (v : Value) (w : World) : Chg (fun k => k = g) w (w.setCell ⟨g, i, none⟩ v) := (Chg.refl (fun k => k = g) w).set (p := ⟨g, i, none⟩) (fun _ => rfl) v
/-- Something was read by rd. -/
def RfTo {α : Type} (B g : Nat) (A : Option Addr) (n c : Nat) (b : List UInt8) (at_ : Nat) (bad : Bool) (rd : List UInt8 → Option (α × List UInt8)) (w' : World) (x : α) : Prop :=
  ∃ at' bad', Rf w' B g A n c b at' bad' ∧ (left b at_ bad).bind rd = (left b at' bad').map fun r => (x, r)
def RfNum (w : World) (B g : Nat) (A : Option Addr) (n c : Nat) (b : List UInt8) (at_ : Nat) (bad : Bool) (e : Ending) (w' : World) : Prop :=
  ∃ u : Int, e = .returned (.int .i64 u) ∧ (Lit.int .i64 u).wf = true ∧ Chg (fun k => k = g) w w' ∧ RfTo B g A n c b at_ bad rdNum w' u

set_option maxHeartbeats 2000000 in
set_option maxRecDepth 100000 in
theorem refnum_r {w : World} {B g : Nat} {A : Option Addr} {n c : Nat} {b : List UInt8} {at_ : Nat} {bad : Bool} (h : Rf w B g A n c b at_ bad) (hn : n ≤ 1000000) :
    Calls Try.prog 42 #[.pointer (some ⟨g, 0, none⟩)] w (RfNum w B g A n c b at_ bad) := by
  have H := hid h
  have hn2 : (n : Int) ≤ 1000000 := by omega
  have hle := h.le
  obtain ⟨d0, d1, d2⟩ := h.cells
  have f2 : w.frozen? ⟨g, 2, none⟩ = false := freeAt h.blk 2
  clear h
  cases bad with
  | true =>
    go_enter Try.func42, Try.ntmps42
    go_wp2_with fail
    go_quiet (fail)
    go_wp2_with fail
    go_ret
    exact ⟨0, rfl, by decide, (((Chg.refl (fun k => k = g) w).drewN nq)).trans (chg_at g 2 _ _) (fun _ h _ => h), at_, true, (H.out.drewN nq).setBad true, rfl⟩
  | false =>
    have e6 : IntKind.i64.wrap ((n : Int) - (at_ : Int)) = (n : Int) - (at_ : Int) := IntWalk.i64_in _ (by omega)
    by_cases h6 : (n : Int) - (at_ : Int) < 6
    · go_enter Try.func42, Try.ntmps42
      go_wp2_with fail
      go_quiet (fail)
      go_wp2_with fail
      go_ret
      refine ⟨0, rfl, by decide, (((Chg.refl (fun k => k = g) w).drewN nq)).trans (chg_at g 2 _ _) (fun _ h _ => h), at_, true, (H.out.drewN nq).setBad true, ?_⟩
      rw [left_some, Option.bind_some, left_none, Option.map_none]
      unfold rdNum
      rw [if_pos (by have := H.out.row.1; rw [List.length_drop]; omega)]
    · go_enter Try.func42, Try.ntmps42
      go_wp2_with fail
      go_quiet (fail)
      clear e6
      go_wp2_with fail
      have H3 := hid (H.out.drewN nq)
      have C3 := hid ((Chg.refl (fun k => k = g) w).drewN nq)
      obtain ⟨w3, hw3⟩ : ∃ w3, w3 = w.drewN nq := ⟨_, rfl⟩
      rw [← hw3] at H3 C3 ⊢
      have H6 := hid (show ((b.drop at_).take 6).length = 6 by have := H3.out.row.1; rw [List.length_take, List.length_drop]; omega)
      clear hw3 d0 d1 d2 f2
      go_loopw [3, 4] (fun acc i wr => ∃ j : Nat, j ≤ 6 ∧ i = .int .i64 j ∧ acc = .int .i64 (val (((b.drop at_).take 6).take j) : Int) ∧ Rf wr B g A n c b at_ false ∧ Chg (fun k => k = g) w wr) (fun _ i _ => 6 - (intOf i).toNat)
      case atStart => exact ⟨0, Nat.zero_le _, rfl, rfl, H3.out, C3.out⟩
      case round =>
        obtain ⟨j, hj, rfl, rfl, hR, hC⟩ := hrel
        have HR := hid hR
        have HC := hid hC
        obtain ⟨d0, d1, d2⟩ := hR.cells
        obtain ⟨q, hq⟩ : ∃ q, q = val (((b.drop at_).take 6).take j) := ⟨_, rfl⟩
        have HQ := hid hq
        have hq48 : q < 281474976710656 := by rw [hq]; exact val_take_lt _ hj
        rw [← hq]
        clear hq hR hC
        by_cases hjl : j < 6
        · obtain ⟨y, hy⟩ : ∃ y, b[at_ + j]? = some y := ⟨_, List.getElem?_eq_getElem (by have := HR.out.row.1; omega)⟩
          obtain ⟨a6, ha6, _, hc6⟩ := Ty.byteAt HR.out.row hy
          subst ha6
          have hyl := y.toNat_lt
          have HY := hid (show ((b.drop at_).take 6)[j]? = some y by rw [List.getElem?_take, if_pos hjl, List.getElem?_drop]; exact hy)
          have hq40 : q < 1099511627776 := by rw [HQ.out]; exact val_take_lt2 _ hjl
          have ea : IntKind.i64.wrap ((at_ : Int) + (j : Int)) = ((at_ + j : Nat) : Int) := by rw [IntWalk.i64_in _ (by omega)]; rfl
          have e1 : IntKind.i64.wrap ((q : Int) * 256) = (q : Int) * 256 := IntWalk.i64_in _ (by omega)
          have e2 : IntKind.i64.wrap ((q : Int) * 256 + (y.toNat : Int)) = ((q * 256 + y.toNat : Nat) : Int) := by rw [IntWalk.i64_in _ (by omega)]; rfl
          have hb1 : ((at_ + j : Nat) : Int) < (n : Int) := by omega
          clear hy hq48
          go_wp2_with fail
          go_quiet (fail)
          clear ea e1 e2 hb1
          have HN := hid (HR.out.drewN nq)
          have HNC := hid (HC.out.drewN nq)
          go_wp2_with fail
          have hacc : Value.int .i64 ((q : Int) * 256 + (y.toNat : Int)) = .int .i64 (val (((b.drop at_).take 6).take (j + 1)) : Int) := by
            rw [List.take_add_one, HY.out, Option.toList_some, val_snoc, ← HQ.out]
            rfl
          go_roundw
          case measure => simp [intOf]; omega
          case rel => first | exact ⟨j + 1, by omega, by go_num, hacc, HN.out, HNC.out⟩ | ((repeat apply Exists.intro); exact ⟨⟨j + 1, by omega, by go_num, hacc, HN.out, HNC.out⟩, rfl⟩)
        · obtain rfl : j = 6 := by omega
          have ev : IntKind.i64.wrap ((q : Int) - 1) = (q : Int) - 1 := IntWalk.i64_in _ (by omega)
          have ea : IntKind.i64.wrap ((at_ : Int) + 6) = (at_ : Int) + 6 := IntWalk.i64_in _ (by omega)
          have f1 : wr.frozen? ⟨g, 1, none⟩ = false := freeAt HR.out.blk 1
          have HF := hid (show RfTo B g A n c b at_ false rdNum (wr.setCell ⟨g, 1, none⟩ (.int .i64 ((at_ : Int) + 6))) ((q : Int) - 1) from by
            refine ⟨at_ + 6, false, HR.out.setAt (q := at_ + 6) (by omega), ?_⟩
            rw [left_some, left_some, Option.bind_some, Option.map_some]
            unfold rdNum
            rw [if_neg (by have := HR.out.row.1; rw [List.length_drop]; omega), List.drop_drop, HQ.out, List.take_take]
            rfl)
          clear h6
          go_wp2_with fail
          go_ret
          exact ⟨(q : Int) - 1, rfl, int_wf (by omega) (by omega), HC.out.trans (chg_at g 1 _ _) (fun _ h _ => h), HF.out⟩

def RfCount (w : World) (B g : Nat) (A : Option Addr) (n c : Nat) (b : List UInt8) (at_ : Nat) (bad : Bool) (e : Ending) (w' : World) : Prop :=
  ∃ q : Nat, e = .returned (.int .i64 (q : Int)) ∧ q ≤ n ∧ Chg (fun k => k = g) w w' ∧ RfTo B g A n c b at_ bad (rdCountL 1) w' q
theorem rdCount_of {L : Nat} {X Y : Option (List UInt8)} {u : Int} (h : X.bind rdNum = Y.map fun r => (u, r)) : X.bind (rdCountL L) = Y.bind fun r => if u < 0 ∨ (((r.length / L : Nat)) : Int) < u then none else some (u.toNat, r) := by
  have e : X.bind (rdCountL L) = (X.bind rdNum).bind fun r => if r.1 < 0 ∨ (((r.2.length / L : Nat)) : Int) < r.1 then none else some (r.1.toNat, r.2) := by cases X <;> rfl
  rw [e, h]
  cases Y <;> rfl
theorem Rf.stops {w : World} {B g : Nat} {A : Option Addr} {n c : Nat} {b : List UInt8} {at' : Nat} {bad' : Bool} (h : Rf w B g A n c b at' bad') {at_ : Nat} {bad : Bool} {u : Int} (he : (left b at_ bad).bind (rdCountL 1) = (left b at' bad').bind fun r => if u < 0 ∨ (((r.length / 1 : Nat)) : Int) < u then none else some (u.toNat, r))
    (hc : bad' = true ∨ u < 0 ∨ (n : Int) - (at' : Int) < u) (q x : Nat) : RfTo B g A n c b at_ bad (rdCountL 1) ((w.drewN q).setCell ⟨g, 2, none⟩ (.bool true)) x := by
  refine ⟨at', true, (h.drewN q).setBad true, ?_⟩
  rw [he, left_none, Option.map_none]
  cases bad' with
  | true => rfl
  | false =>
    rw [left_some, Option.bind_some, if_pos]
    have h1 := h.row.1
    have h2 := h.le
    rcases hc with hc | hc | hc
    · cases hc
    · exact .inl hc
    · exact .inr (by rw [List.length_drop, Nat.div_one, ← h1]; omega)
set_option maxHeartbeats 2000000 in
set_option maxRecDepth 100000 in
theorem refcount_r {w : World} {B g : Nat} {A : Option Addr} {n c : Nat} {b : List UInt8} {at_ : Nat} {bad : Bool} (h : Rf w B g A n c b at_ bad) (hn : n ≤ 1000000) :
    Calls Try.prog 61 #[.pointer (some ⟨g, 0, none⟩)] w (RfCount w B g A n c b at_ bad) := by
  have H := hid h
  have hn2 : (n : Int) ≤ 1000000 := by omega
  clear h
  go_enter Try.func61, Try.ntmps61
  go_wp2_with fail
  refine (refnum_r H.out hn).mono ?_
  rintro e w1 ⟨u, rfl, hw, hc, at', bad', hr, heq⟩
  have HC := hid hc
  have HR := hid hr
  have HE := hid (rdCount_of (L := 1) heq)
  have hub := wf64 hw
  have hle := hr.le
  obtain ⟨d0, d1, d2⟩ := hr.cells
  have f2 : w1.frozen? ⟨g, 2, none⟩ = false := freeAt hr.blk 2
  clear hw hc hr heq
  have hc1 : ∀ nq, Chg (fun j => j = g) w ((w1.drewN nq).setCell ⟨g, 2, none⟩ (.bool true)) := fun nq => (HC.out.drewN nq).trans (chg_at g 2 _ _) (fun _ h _ => h)
  have HC1 := hid hc1
  clear hc1
  cases bad' with
  | true =>
    go_wp2_with fail
    go_quiet (fail)
    go_wp2_with fail
    go_ret
    exact ⟨0, rfl, Nat.zero_le _, HC1.out _, HR.out.stops HE.out (.inl rfl) _ _⟩
  | false =>
    have e6 : IntKind.i64.wrap ((n : Int) - (at' : Int)) = (n : Int) - (at' : Int) := IntWalk.i64_in _ (by omega)
    by_cases hu0 : u < 0
    · go_wp2_with fail
      go_quiet (fail)
      go_wp2_with fail
      go_ret
      exact ⟨0, rfl, Nat.zero_le _, HC1.out _, HR.out.stops HE.out (.inr (.inl hu0)) _ _⟩
    by_cases hcd : (n : Int) - (at' : Int) < u
    · go_wp2_with fail
      go_quiet (fail)
      go_wp2_with fail
      go_ret
      exact ⟨0, rfl, Nat.zero_le _, HC1.out _, HR.out.stops HE.out (.inr (.inr hcd)) _ _⟩
    · go_wp2_with fail
      go_quiet (fail)
      go_wp2_with fail
      go_ret
      refine ⟨u.toNat, ?_, by omega, HC.out.drewN _, at', false, HR.out.drewN _, ?_⟩
      · rw [Int.toNat_of_nonneg (by omega)]
        rfl
      · have q1 := HE.out
        have h1 := HR.out.row.1
        rw [left_some, Option.bind_some, if_neg (by rw [List.length_drop, Nat.div_one, ← h1]; omega)] at q1
        exact q1
end Go.Proofs.Ytcmfgijdelaelaa.Pa
