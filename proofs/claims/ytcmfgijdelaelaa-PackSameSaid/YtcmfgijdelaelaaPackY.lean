
/- The document's reader: its entry. -/

import Derived.Test.YtcmfgijdelaelaaPackX

namespace Go.Proofs.Ytcmfgijdelaelaa.Pa

set_option linter.unusedVariables false

set_option linter.unusedSimpArgs false

open Go.RowKit Go.Proofs.Ytcmfgijdelaelaa.C

attribute [local go_sem] max2_int min2_int max_two min_two

/-- k elements of a list were read into cell o of block p. -/
structure SeqAt {α : Type} (d : Ty α) (e : TypeId) (rdr : List UInt8 → Option (α × List UInt8)) (w : World) (B g : Nat) (A : Option Addr) (n c : Nat) (b : List UInt8) (p o tp : Nat) (cs : Array Value) (Y : Option (List UInt8)) (k : Nat) (us : List α) (A' : Option Addr) (c' at' : Nat) (bad' : Bool) (wr : World) : Prop where
  len : us.length = k
  blk : wr.heap[p]? = some (.cells (cs.setIfInBounds o (.slice A' k c')) tp (0, 0))
  vec : Vec d e wr (fun k => w.heap.size ≤ k) (fun k => w.heap.size ≤ k) (.slice A' k c') us
  chg : Chg (fun j => j = g ∨ j = p) w wr
  rd : Rf wr B g A n c b at' bad'
  eq : Y.bind (rdList rdr k) = (left b at' bad').map fun r => (us, r)
theorem SeqAt.step {α : Type} {d : Ty α} {e : TypeId} {rd : List UInt8 → Option (α × List UInt8)} (hty : e ≠ 87) {w : World} {B g : Nat} {A : Option Addr} {n c : Nat} {b : List UInt8} {p o tp : Nat} {cs : Array Value} {Y : Option (List UInt8)} {k : Nat} {us : List α} {A' : Option Addr} {c' at' : Nat} {wr w3 w4 : World} {y : α} {A4 : Option Addr} {c4 at2 : Nat} {bad2 : Bool}
    (h : SeqAt d e rd w B g A n c b p o tp cs Y k us A' c' at' false wr) (hpg : p ≠ g) (hc3 : Chg (fun j => j = g) wr w3) (hrd : Rf w3 B g A n c b at2 bad2) (heq : (left b at' false).bind rd = (left b at2 bad2).map fun r => (y, r)) (hpw : B ≤ p ∧ p < w.heap.size)
    (hv4 : Vec d e w4 (fun k => w.heap.size ≤ k) (fun k => w.heap.size ≤ k) (.slice A4 (k + 1) c4) (us ++ [y])) (hc4 : Chg (fun j => (Value.slice A' k c').ownBlock = some j) w3 w4) :
    SeqAt d e rd w B g A n c b p o tp cs Y (k + 1) (us ++ [y]) A4 c4 at2 bad2 (w4.setCell ⟨p, o, none⟩ (.slice A4 (k + 1) c4)) := by
  have hlt := h.vec.lt
  have hge := h.vec.inS
  have hB := h.rd.low
  have hg := h.rd.lt
  have hpown : (Value.slice A' k c').ownBlock ≠ some p := fun e => by have := hge p e; omega
  have hgown : (Value.slice A' k c').ownBlock ≠ some g := h.vec.ne h.rd.blk hty
  have b3 := hc3.blk h.blk hpg
  have b4 := hc4.blk b3 hpown
  have bs := blk_set b4 o (.slice A4 (k + 1) c4)
  rw [Array.setIfInBounds_setIfInBounds] at bs
  have cs4 : Chg (fun j => j = p) w4 (w4.setCell ⟨p, o, none⟩ (.slice A4 (k + 1) c4)) := (Chg.refl (fun j => j = p) w4).set (p := ⟨p, o, none⟩) (fun _ => rfl) _
  have hv4p : (Value.slice A4 (k + 1) c4).ownBlock ≠ some p := fun e => by have := hv4.inS p e; omega
  refine ⟨by rw [List.length_append, h.len]; rfl, bs, hv4.chg cs4 (fun j hj e => hv4p (e ▸ hj)) (fun j hj _ _ e => by subst e; omega), ?_, ?_, ?_⟩
  · refine ((h.chg.trans hc3 (fun j hj hl => .inl hj)).trans hc4 (fun j hj hl => ?_)).trans cs4 (fun j hj _ => .inr hj)
    have := hge j hj; omega
  · exact (hrd.chg (M := fun j => (Value.slice A' k c').ownBlock = some j) hc4 (fun j hj => by have := hge j hj; omega) hgown).chg cs4 (fun j hj => by subst hj; exact hpw.1) (fun e => hpg e.symm)
  · rw [rdList_step h.eq, heq]
    cases (left b at2 bad2) <;> rfl
theorem rdSeq_of {α : Type} {rd : List UInt8 → Option (α × List UInt8)} {L : Nat} {X Y : Option (List UInt8)} {q : Nat} (h : X.bind (rdCountL L) = Y.map fun r => (q, r)) : X.bind (rdSeq L rd) = Y.bind (rdList rd q) := by
  have e : X.bind (rdSeq L rd) = (X.bind (rdCountL L)).bind fun r => rdList rd r.1 r.2 := by cases X <;> rfl
  rw [e, h]
  cases Y <;> rfl
theorem SeqAt.done {α : Type} {d : Ty α} {e : TypeId} {rd : List UInt8 → Option (α × List UInt8)} {w : World} {B g : Nat} {A : Option Addr} {n c : Nat} {b : List UInt8} {p o tp : Nat} {cs : Array Value} {k q : Nat} {us : List α} {A' : Option Addr} {c' at' : Nat} {bad' : Bool} {wr : World} {at_ at1 : Nat} {bad bad1 : Bool} (h : SeqAt d e rd w B g A n c b p o tp cs (left b at1 bad1) k us A' c' at' bad' wr)
    (he : (left b at_ bad).bind (rdCountL 1) = (left b at1 bad1).map fun r => (q, r)) (hk : k ≤ q) (hd : k = q ∨ bad' = true) : (left b at_ bad).bind (rdSeq 1 rd) = (left b at' bad').map fun r => (us, r) := by
  rw [rdSeq_of he]
  rcases hd with rfl | rfl
  · exact h.eq
  · rw [left_none, Option.map_none]
    have := h.eq
    rw [left_none, Option.map_none] at this
    exact rdList_stop this hk

theorem infoRule : (Try.prog.info? 100).map (fun i => (i.zero, i.size, i.bytes)) = some (some (.agg #[.int .i64 0, .int .i64 0, .int .i64 0, .int .i64 0, .string ByteArray.empty]), 5, 48) := by kernel_rfl
theorem infoInt : (Try.prog.info? 3).map (fun i => (i.zero, i.size, i.bytes)) = some (some (.int .i64 0), 1, 8) := by kernel_rfl
def rdEntryR : List UInt8 → Option (Entry × List UInt8) := thenRd (thenRd (rdList rdNum 7) (rdSeq 1 rdRule) Prod.mk) (rdSeq 1 rdNum) (fun q d => mkEntry q.1 q.2 d)
def RfEntry (w : World) (B g : Nat) (A : Option Addr) (n c : Nat) (b : List UInt8) (at_ : Nat) (bad : Bool) (e' : Ending) (w' : World) : Prop :=
  ∃ (e : Entry) (A1 : Option Addr) (n1 c1 : Nat) (A2 : Option Addr) (n2 c2 : Nat), e' = .returned (.agg #[.int .i64 e.view, .int .i64 e.client, .int .i64 e.request, .int .i64 e.dflt, .int .i64 e.closed, .int .i64 e.fuel, .int .i64 e.stack, .slice A1 n1 c1, .slice A2 n2 c2]) ∧ EntryAt w' (fun k => w.heap.size ≤ k) e A1 n1 c1 A2 n2 c2 ∧ Chg (fun k => k = g) w w' ∧ RfTo B g A n c b at_ bad rdEntryR w' e

set_option maxHeartbeats 8000000 in
set_option maxRecDepth 100000 in
theorem refentry_r {w : World} {B g : Nat} {A : Option Addr} {n c : Nat} {b : List UInt8} {at_ : Nat} {bad : Bool} (h : Rf w B g A n c b at_ bad) (hn : n ≤ 1000000) :
    Calls Try.prog 62 #[.pointer (some ⟨g, 0, none⟩)] w (RfEntry w B g A n c b at_ bad) := by
  have H := hid h
  have HG := hid h.lt
  have hn2 : (n : Int) ≤ 1000000 := by omega
  obtain ⟨w0, hw0⟩ : ∃ w0, w0 = w.alloc (.cells #[.int .i64 0, .int .i64 0, .int .i64 0, .int .i64 0, .int .i64 0, .int .i64 0, .int .i64 0, .slice none 0 0, .slice none 0 0] 70) := ⟨_, rfl⟩
  have C0 := hid (show Chg (fun _ => False) w w0 by rw [hw0]; exact (Chg.refl _ w).alloc _)
  have B0 := hid (show w0.heap[w.heap.size]? = some (.cells #[.int .i64 0, .int .i64 0, .int .i64 0, .int .i64 0, .int .i64 0, .int .i64 0, .int .i64 0, .slice none 0 0, .slice none 0 0] 70 (0, 0)) by rw [hw0]; exact blk_new w _)
  have H0 := hid (h.chg C0.out (fun _ h => h.elim) (fun h => h))
  have E0 := hid (rdZero (X := left b at_ bad))
  have C00 := hid (Chg.refl (fun k => k = g) w0)
  clear h
  go_enter Try.func62, Try.ntmps62
  go_wp2_with fail
  rw [← hw0]
  clear hw0
  refine (refnum_r H0.out hn).mono ?_
  rintro e w1 ⟨u1, rfl, hw1, hc1, at1, bad1, hr1, eq1⟩
  have H1 := hid hr1
  have C1 := hid (C00.out.trans hc1 (fun _ h _ => h))
  have E1 := hid (rdMore E0.out eq1)
  have W1 := hid hw1
  clear hw1 hc1 hr1 eq1
  go_wp2_with fail
  refine (refnum_r H1.out hn).mono ?_
  rintro e w2 ⟨u2, rfl, hw2, hc2, at2, bad2, hr2, eq2⟩
  have H2 := hid hr2
  have C2 := hid (C1.out.trans hc2 (fun _ h _ => h))
  have E2 := hid (rdMore E1.out eq2)
  have W2 := hid hw2
  clear hw2 hc2 hr2 eq2
  go_wp2_with fail
  refine (refnum_r H2.out hn).mono ?_
  rintro e w3 ⟨u3, rfl, hw3, hc3, at3, bad3, hr3, eq3⟩
  have H3 := hid hr3
  have C3 := hid (C2.out.trans hc3 (fun _ h _ => h))
  have E3 := hid (rdMore E2.out eq3)
  have W3 := hid hw3
  clear hw3 hc3 hr3 eq3
  go_wp2_with fail
  obtain ⟨p, hp⟩ : ∃ p, p = w3.heap.size := ⟨_, rfl⟩
  obtain ⟨w3', hw3'⟩ : ∃ w3', w3' = w3.alloc (.cells #[.int .i64 u1, .int .i64 u2, .int .i64 u3, .int .i64 0, .int .i64 0, .int .i64 0, .int .i64 0, .slice none 0 0, .slice none 0 0] 70) := ⟨_, rfl⟩
  have CP := hid (show Chg (fun _ => False) w3 w3' by rw [hw3']; exact (Chg.refl _ w3).alloc _)
  have P3 := hid (show w3'.heap[p]? = some (.cells #[.int .i64 u1, .int .i64 u2, .int .i64 u3, .int .i64 0, .int .i64 0, .int .i64 0, .int .i64 0, .slice none 0 0, .slice none 0 0] 70 (0, 0)) by rw [hw3', hp]; exact blk_new w3 _)
  have HP := hid hp
  have hpg : p ≠ g := by have := H3.out.lt; omega
  have hpw : w.heap.size < p := by rw [hp]; exact Nat.lt_of_lt_of_le (lt_of_blk B0.out) C3.out.size
  have hgw : g ≠ w.heap.size := by have := HG.out; omega
  rw [← hw3', ← hp]
  clear hw3' hp
  have H3' := hid (H3.out.chg CP.out (fun _ h => h.elim) (fun h => h))
  have D3 := hid (Chg.refl (fun k => k = g ∨ k = p) w3')
  clear H1 H2 E1 E2 C1 C2
  refine (refnum_r H3'.out hn).mono ?_
  rintro e w4 ⟨u4, rfl, hw4, hc4, at4, bad4, hr4, eq4⟩
  have P4 := hid (hc4.blk P3.out hpg)
  have E4 := hid (rdMore E3.out eq4)
  have W4 := hid hw4
  have z : w4.cell? ⟨p, 3, none⟩ = some (.int .i64 0) := by rw [cellAt P4.out]; rfl
  have fz : w4.frozen? ⟨p, 3, none⟩ = false := freeAt P4.out 3
  go_wp2_with fail
  obtain ⟨w4', hw4'⟩ : ∃ w4', w4' = w4.setCell ⟨p, 3, none⟩ (.int .i64 u4) := ⟨_, rfl⟩
  rw [← hw4']
  have P4' := hid (show w4'.heap[p]? = some (.cells #[.int .i64 u1, .int .i64 u2, .int .i64 u3, .int .i64 u4, .int .i64 0, .int .i64 0, .int .i64 0, .slice none 0 0, .slice none 0 0] 70 (0, 0)) by rw [hw4']; exact blk_set P4.out 3 _)
  have CS := hid (show Chg (fun k => k = p) w4 w4' by rw [hw4']; exact chg_at p 3 _ w4)
  have H4' := hid (hr4.chg CS.out (fun k hk => by subst hk; have := H.out.low; have := HG.out; omega) (fun e => hpg e.symm))
  have D4 := hid ((D3.out.trans hc4 (fun _ h _ => .inl h)).trans CS.out (fun _ h _ => .inr h))
  clear hw4 hc4 hr4 eq4 z fz hw4' CS
  refine (refnum_r H4'.out hn).mono ?_
  rintro e w5 ⟨u5, rfl, hw5, hc5, at5, bad5, hr5, eq5⟩
  have P5 := hid (hc5.blk P4'.out hpg)
  have E5 := hid (rdMore E4.out eq5)
  have W5 := hid hw5
  have z : w5.cell? ⟨p, 4, none⟩ = some (.int .i64 0) := by rw [cellAt P5.out]; rfl
  have fz : w5.frozen? ⟨p, 4, none⟩ = false := freeAt P5.out 4
  go_wp2_with fail
  obtain ⟨w5', hw5'⟩ : ∃ w5', w5' = w5.setCell ⟨p, 4, none⟩ (.int .i64 u5) := ⟨_, rfl⟩
  rw [← hw5']
  have P5' := hid (show w5'.heap[p]? = some (.cells #[.int .i64 u1, .int .i64 u2, .int .i64 u3, .int .i64 u4, .int .i64 u5, .int .i64 0, .int .i64 0, .slice none 0 0, .slice none 0 0] 70 (0, 0)) by rw [hw5']; exact blk_set P5.out 4 _)
  have CS := hid (show Chg (fun k => k = p) w5 w5' by rw [hw5']; exact chg_at p 4 _ w5)
  have H5' := hid (hr5.chg CS.out (fun k hk => by subst hk; have := H.out.low; have := HG.out; omega) (fun e => hpg e.symm))
  have D5 := hid ((D4.out.trans hc5 (fun _ h _ => .inl h)).trans CS.out (fun _ h _ => .inr h))
  clear hw5 hc5 hr5 eq5 z fz hw5' CS
  refine (refnum_r H5'.out hn).mono ?_
  rintro e w6 ⟨u6, rfl, hw6, hc6, at6, bad6, hr6, eq6⟩
  have P6 := hid (hc6.blk P5'.out hpg)
  have E6 := hid (rdMore E5.out eq6)
  have W6 := hid hw6
  have z : w6.cell? ⟨p, 5, none⟩ = some (.int .i64 0) := by rw [cellAt P6.out]; rfl
  have fz : w6.frozen? ⟨p, 5, none⟩ = false := freeAt P6.out 5
  go_wp2_with fail
  obtain ⟨w6', hw6'⟩ : ∃ w6', w6' = w6.setCell ⟨p, 5, none⟩ (.int .i64 u6) := ⟨_, rfl⟩
  rw [← hw6']
  have P6' := hid (show w6'.heap[p]? = some (.cells #[.int .i64 u1, .int .i64 u2, .int .i64 u3, .int .i64 u4, .int .i64 u5, .int .i64 u6, .int .i64 0, .slice none 0 0, .slice none 0 0] 70 (0, 0)) by rw [hw6']; exact blk_set P6.out 5 _)
  have CS := hid (show Chg (fun k => k = p) w6 w6' by rw [hw6']; exact chg_at p 5 _ w6)
  have H6' := hid (hr6.chg CS.out (fun k hk => by subst hk; have := H.out.low; have := HG.out; omega) (fun e => hpg e.symm))
  have D6 := hid ((D5.out.trans hc6 (fun _ h _ => .inl h)).trans CS.out (fun _ h _ => .inr h))
  clear hw6 hc6 hr6 eq6 z fz hw6' CS
  refine (refnum_r H6'.out hn).mono ?_
  rintro e w7 ⟨u7, rfl, hw7, hc7, at7, bad7, hr7, eq7⟩
  have P7 := hid (hc7.blk P6'.out hpg)
  have E7 := hid (rdMore E6.out eq7)
  have W7 := hid hw7
  have z : w7.cell? ⟨p, 6, none⟩ = some (.int .i64 0) := by rw [cellAt P7.out]; rfl
  have fz : w7.frozen? ⟨p, 6, none⟩ = false := freeAt P7.out 6
  go_wp2_with fail
  obtain ⟨w7', hw7'⟩ : ∃ w7', w7' = w7.setCell ⟨p, 6, none⟩ (.int .i64 u7) := ⟨_, rfl⟩
  rw [← hw7']
  have P7' := hid (show w7'.heap[p]? = some (.cells #[.int .i64 u1, .int .i64 u2, .int .i64 u3, .int .i64 u4, .int .i64 u5, .int .i64 u6, .int .i64 u7, .slice none 0 0, .slice none 0 0] 70 (0, 0)) by rw [hw7']; exact blk_set P7.out 6 _)
  have CS := hid (show Chg (fun k => k = p) w7 w7' by rw [hw7']; exact chg_at p 6 _ w7)
  have H7' := hid (hr7.chg CS.out (fun k hk => by subst hk; have := H.out.low; have := HG.out; omega) (fun e => hpg e.symm))
  have D7 := hid ((D6.out.trans hc7 (fun _ h _ => .inl h)).trans CS.out (fun _ h _ => .inr h))
  clear hw7 hc7 hr7 eq7 z fz hw7' CS
  clear H3 H4' H5' H6' P4 P4' P5 P5' P6 P6' P7 E3 E4 E5 E6 D4 D5 D6
  refine (refcount_r H7'.out hn).mono ?_
  rintro e w8 ⟨q, rfl, hqn, hc8, at8, bad8, hr8, eq8⟩
  have EQ1 := hid eq8
  have PL := hid (show p < w7'.heap.size from lt_of_blk P7'.out)
  have D8 := hid (D7.out.trans hc8 (fun _ h _ => .inl h))
  have L0 := hid (show SeqAt ruleK 100 rdRule w8 B g A n c b p 7 70 #[.int .i64 u1, .int .i64 u2, .int .i64 u3, .int .i64 u4, .int .i64 u5, .int .i64 u6, .int .i64 u7, .slice none 0 0, .slice none 0 0] (left b at8 bad8) 0 [] none 0 at8 bad8 w8 from ⟨rfl, hc8.blk P7'.out hpg, Vec.nil _ _ _ _ _, Chg.refl _ _, hr8, by cases bad8 <;> simp [left, rdList]⟩)
  have HPL := hid (show B ≤ p ∧ p < w8.heap.size from ⟨by have := H.out.low; have := HG.out; omega, Nat.lt_of_lt_of_le PL.out hc8.size⟩)
  have HPG8 := hid (show g < w8.heap.size from hr8.lt)
  have hqn2 : (q : Int) ≤ 1000000 := by omega
  clear hc8 hr8 eq8
  go_wp2_with fail
  go_loopw [5] (fun i wr => ∃ (k : Nat) (us : List Rule) (A' : Option Addr) (c' at' : Nat) (bad' : Bool), k ≤ q ∧ i = .int .i64 k ∧ SeqAt ruleK 100 rdRule w8 B g A n c b p 7 70 #[.int .i64 u1, .int .i64 u2, .int .i64 u3, .int .i64 u4, .int .i64 u5, .int .i64 u6, .int .i64 u7, .slice none 0 0, .slice none 0 0] (left b at8 bad8) k us A' c' at' bad' wr) (fun i _ => q - (intOf i).toNat)
  case atStart => exact ⟨0, [], none, 0, at8, bad8, Nat.zero_le _, rfl, L0.out⟩
  case round =>
    obtain ⟨k, us, A', c', at', bad', hk, rfl, hT⟩ := hrel
    have HT := hid hT
    have hd3 := hT.rd.cells.2.2
    clear hT
    by_cases hgo : k < q ∧ bad' = false
    · obtain ⟨hlt, rfl⟩ := hgo
      have hlt2 : (k : Int) < (q : Int) := by omega
      go_wp2_with fail
      obtain ⟨M, hMM⟩ : ∃ M : Nat → Prop, ∀ ii, M ii ↔ ((Value.slice A' k c').ownBlock = some ii ∨ ii = g) := ⟨_, fun _ => Iff.rfl⟩
      have MM := hid hMM
      have HOB := hid (show ∀ jj, (Value.slice A' k c').ownBlock = some jj → jj ≠ p ∧ jj ≠ g from fun jj hj => ⟨by have := HT.out.vec.inS jj hj; have := HPL.out.2; omega, fun e => HT.out.vec.ne HT.out.rd.blk (by decide) (e ▸ hj)⟩)
      have hcell0 : ∀ wx, Chg M wr wx → wx.cell? ⟨p, 7, none⟩ = some (.slice A' k c') := fun wx hx => hx.cell (by rw [cellAt HT.out.blk]; rfl) (fun h => by rcases (MM.out _).1 h with h | h; exact (HOB.out _ h).1 rfl; exact hpg h)
      have HKL := hid HT.out.len
      clear hMM hd3
      refine wpB_start (fun wx : World => Chg M wr wx) (by kernel_rfl) ?_
      have hHeld : (fun wx : World => Chg M wr wx) _ := (by first | assumption | exact Chg.drew (Chg.refl _ _) | (show _ ∧ _; refine ⟨?_, ?_⟩ <;> assumption) | (first | assumption | exact hHeld.alloc _ | exact hHeld.trans hcr (fun _ h _ => (MM.out _).2 (.inr h)) | exact hHeld.trans h2 (fun _ h _ => (MM.out _).2 (.inl h))))
      -- 0: t44 := fieldAddr 70 t3 3 : 0
      refine wpB_take (i := 0) (v := ?_) (get_of_drop rfl) (by kernel_rfl) (by kernel_rfl) (by kernel_rfl) (by kernel_rfl) (fun _ _ _ h => h) (Or.inl ⟨by rfl, ?_⟩) hHeld ?_
      rotate_left
      · (intro w hSw; (try dsimp only at hSw); go_simp <;> with_reducible rfl)
      try simp only [Act.put, List.setIfInBounds_toArray, List.set_cons_zero, List.set_cons_succ]
      -- 1: t45 := fieldAddr 68 t44 4 : 0
      refine wpB_take (i := 1) (v := ?_) (get_of_drop rfl) (by kernel_rfl) (by kernel_rfl) (by kernel_rfl) (by kernel_rfl) (fun _ _ _ h => h) (Or.inl ⟨by rfl, ?_⟩) hHeld ?_
      rotate_left
      · (intro w hSw; (try dsimp only at hSw); go_simp <;> with_reducible rfl)
      try simp only [Act.put, List.setIfInBounds_toArray, List.set_cons_zero, List.set_cons_succ]
      -- 2: t46 := load 66 t45 : 66
      refine wpB_take (i := 2) (v := ?_) (get_of_drop rfl) (by kernel_rfl) (by kernel_rfl) (by kernel_rfl) (by kernel_rfl) (fun _ _ _ h => h) (Or.inl ⟨by rfl, ?_⟩) hHeld ?_
      rotate_left
      · (intro w hSw; (try dsimp only at hSw); go_simp <;> with_reducible rfl)
      try simp only [Act.put, List.setIfInBounds_toArray, List.set_cons_zero, List.set_cons_succ]
      -- 3: t47 := move t0 : 85
      refine wpB_take (i := 3) (v := ?_) (get_of_drop rfl) (by kernel_rfl) (by kernel_rfl) (by kernel_rfl) (by kernel_rfl) (fun _ _ _ h => h) (Or.inl ⟨by rfl, ?_⟩) hHeld ?_
      rotate_left
      · (intro w hSw; (try dsimp only at hSw); go_simp <;> with_reducible rfl)
      try simp only [Act.put, List.setIfInBounds_toArray, List.set_cons_zero, List.set_cons_succ]
      -- 4: t48 := CALL fn73(t47) : 100
      refine wpB_act (i := 4) (by kernel_rfl) (get_of_drop rfl) (fun K hK => ?_)
      go_simp
      refine (refrule_r (HT.out.rd.chg (Chg.refl (fun _ => False) wr).drew (fun _ h => h.elim) (fun h => h)) hn).mono ?_
      rintro e wy ⟨y, hyw, rfl, hcr, at2, bad2, hrr, eqr⟩
      have H5 := hid hrr
      have H6 := hid eqr
      have HYW := hid hyw
      have CR := hid (show Chg (fun k => k = g) wr wy from ((Chg.refl (fun k => k = g) wr).drew).trans hcr (fun _ h _ => h))
      have HVY := hid (HT.out.vec.chg CR.out (fun jj hj e => (HOB.out jj hj).2 e) (fun jj hj _ hl e => by subst e; have := HT.out.rd.lt; have := HPL.out.2; have h9 : _ ≤ _ := hj; have := HPG8.out; omega))
      refine hK.out _ _ ?_ (fun hHeld2 => ?_)
      · (first | assumption | exact hHeld.alloc _ | exact hHeld.trans hcr (fun _ h _ => (MM.out _).2 (.inr h)) | exact hHeld.trans h2 (fun _ h _ => (MM.out _).2 (.inl h)))
      clear hHeld hK K
      have hHeld := hHeld2
      clear hHeld2
      try simp only [Act.put, List.setIfInBounds_toArray, List.set_cons_zero, List.set_cons_succ]
      -- 5: t49 := buildSlice 66 1 [⟨0, t48⟩] : 66
      refine wpB_act (i := 5) (by kernel_rfl) (get_of_drop rfl) (fun K hK => ?_)
      go_simp
      refine hK.out _ _ ?_ (fun hHeld2 => ?_)
      · (first | assumption | exact hHeld.alloc _ | exact hHeld.trans hcr (fun _ h _ => (MM.out _).2 (.inr h)) | exact hHeld.trans h2 (fun _ h _ => (MM.out _).2 (.inl h)))
      clear hHeld hK K
      have hHeld := hHeld2
      clear hHeld2
      try simp only [Act.put, List.setIfInBounds_toArray, List.set_cons_zero, List.set_cons_succ]
      -- 6: t50 := append(t46, t49) types [66, 66] : 66
      refine wpB_act (i := 6) (by kernel_rfl) (get_of_drop rfl) (fun K hK => ?_)
      refine vec_step (d := ruleK) _ rfl (.tmp 46) (.tmp 49) 66 100 (.agg #[.int .i64 0, .int .i64 0, .int .i64 0, .int .i64 0, .string ByteArray.empty]) 48 rfl Try.underlying66 infoRule rfl (by decide) (by decide) (.slice A' k c') rfl (HVY.out.chg (((Chg.refl (fun _ => False) wy).alloc _)) (fun _ _ h => h) (fun _ _ _ _ h => h)) (some ⟨wy.heap.size, 0, none⟩) 1 1 (ys := [y]) rfl (by simp) (by omega) rfl (new_sees wy (ruleCells y).toArray 100) (Ty.Row.one_ (rule_shut HYW.out)) (by rw [HKL.out]; omega) ?_
      have HH := hid hHeld
      rw [HKL.out]
      intro A4 c4 w4' h1 h2
      have f0' : w4'.frozen? ⟨p, 7, none⟩ = false := freeAt ((HH.out.trans h2 (fun _ h _ => (MM.out _).2 (.inl h))).blk HT.out.blk (fun h => by rcases (MM.out _).1 h with h | h; exact (HOB.out _ h).1 rfl; exact hpg h)) 7
      have c0' : w4'.cell? ⟨p, 7, none⟩ = some (.slice A' k c') := hcell0 _ (HH.out.trans h2 (fun _ h _ => (MM.out _).2 (.inl h)))
      refine hK.out _ _ ?_ (fun hHeld2 => ?_)
      · (first | assumption | exact hHeld.alloc _ | exact hHeld.trans hcr (fun _ h _ => (MM.out _).2 (.inr h)) | exact hHeld.trans h2 (fun _ h _ => (MM.out _).2 (.inl h)))
      clear hHeld hK K
      have hHeld := hHeld2
      clear hHeld2
      try simp only [Act.put, List.setIfInBounds_toArray, List.set_cons_zero, List.set_cons_succ]
      -- 7: t51 := fieldAddr 70 t3 3 : 0
      refine wpB_take (i := 7) (v := ?_) (get_of_drop rfl) (by kernel_rfl) (by kernel_rfl) (by kernel_rfl) (by kernel_rfl) (fun _ _ _ h => h) (Or.inl ⟨by rfl, ?_⟩) hHeld ?_
      rotate_left
      · (intro w hSw; (try dsimp only at hSw); go_simp <;> with_reducible rfl)
      try simp only [Act.put, List.setIfInBounds_toArray, List.set_cons_zero, List.set_cons_succ]
      -- 8: t52 := fieldAddr 68 t51 4 : 0
      refine wpB_take (i := 8) (v := ?_) (get_of_drop rfl) (by kernel_rfl) (by kernel_rfl) (by kernel_rfl) (by kernel_rfl) (fun _ _ _ h => h) (Or.inl ⟨by rfl, ?_⟩) hHeld ?_
      rotate_left
      · (intro w hSw; (try dsimp only at hSw); go_simp <;> with_reducible rfl)
      try simp only [Act.put, List.setIfInBounds_toArray, List.set_cons_zero, List.set_cons_succ]
      -- 9: t- := store 66 t52 t50 : 0 (BARRIER)
      refine wpB_bar (i := 9) (by kernel_rfl) (get_of_drop rfl) (by kernel_rfl) (fun K hK => ?_)
      go_simp
      refine hK.out _ _ (fun _ : World => True) ?_
      clear hHeld hK K
      have hHeld := trivial
      try simp only [Act.put, List.setIfInBounds_toArray, List.set_cons_zero, List.set_cons_succ]
      refine wpB_done (by kernel_rfl) ?_ _
      have HN := hid (HT.out.step (by decide) (w4 := w4') (A4 := A4) (c4 := c4) hpg CR.out H5.out H6.out HPL.out (h1.mono (fun k h _ => by rcases h with h | h; exact h; exact Nat.le_trans (Nat.le_trans HT.out.chg.size CR.out.size) (Nat.le_trans (((Chg.refl (fun _ => False) wy).alloc _)).size h)) (fun k h _ => h)) (((Chg.refl (fun jj => (Value.slice A' k c').ownBlock = some jj) wy).alloc _).trans h2 (fun _ h _ => h)))
      clear h1 h2 hHeld hcell0 f0' c0' hcr hrr eqr hyw
      go_wp2_with fail
      go_roundw
      case measure => simp [intOf]; omega
      case rel => first | exact ⟨k + 1, _, _, _, _, _, hlt, by go_num, HN.out⟩ | ((repeat apply Exists.intro); exact ⟨⟨k + 1, _, _, _, _, _, hlt, by go_num, HN.out⟩, rfl⟩)
    · have HD1 := hid (HT.out.done EQ1.out hk (by cases bad' with | true => exact .inr rfl | false => exact .inl (by have : ¬ k < q := fun h => hgo ⟨h, rfl⟩; omega)))
      have hex : ¬ (k : Int) < (q : Int) ∨ ((k : Int) < (q : Int) ∧ bad' = true) := by
        by_cases h1 : k < q
        · right
          refine ⟨by omega, ?_⟩
          cases bad' with
          | true => rfl
          | false => exact absurd ⟨h1, rfl⟩ hgo
        · left; omega
      clear hgo
      have HPT := hid HT.out.blk
      have HV1 := hid HT.out.vec
      have HC1 := hid HT.out.chg
      have HR1 := hid HT.out.rd
      have HUL := hid HT.out.len
      rcases hex with hex | ⟨hex, rfl⟩
      all_goals
        go_wp2_with fail
        refine (refcount_r HR1.out hn).mono ?_
        rintro e w9 ⟨q2, rfl, hqn9, hc9, at9, bad9, hr9, eq9⟩
        have EQ2 := hid eq9
        have HV2 := hid (HV1.out.chg hc9 (fun j hj e => by subst e; have := HV1.out.inS _ hj; have := HPG8.out; omega) (fun j hj _ _ e => by subst e; have := HPG8.out; omega))
        have L9 := hid (show SeqAt (Ty.int .i64) 3 rdNum w9 B g A n c b p 8 70 #[.int .i64 u1, .int .i64 u2, .int .i64 u3, .int .i64 u4, .int .i64 u5, .int .i64 u6, .int .i64 u7, .slice A' k c', .slice none 0 0] (left b at9 bad9) 0 [] none 0 at9 bad9 w9 from ⟨rfl, hc9.blk HPT.out hpg, Vec.nil _ _ _ _ _, Chg.refl _ _, hr9, by cases bad9 <;> simp [left, rdList]⟩)
        have HPL9 := hid (show B ≤ p ∧ p < w9.heap.size from ⟨HPL.out.1, Nat.lt_of_lt_of_le HPL.out.2 (Nat.le_trans HC1.out.size hc9.size)⟩)
        have D9 := hid ((D8.out.trans HC1.out (fun _ h _ => h)).trans hc9 (fun _ h _ => .inl h))
        have HPG9 := hid (show g < w9.heap.size from hr9.lt)
        have hqn29 : (q2 : Int) ≤ 1000000 := by omega
        clear hc9 hr9 eq9 hd3 hex
        go_wp2_with fail
        go_loopw [6] (fun i wr => ∃ (j : Nat) (vs : List Int) (A2 : Option Addr) (c2 at' : Nat) (bad' : Bool), j ≤ q2 ∧ i = .int .i64 j ∧ SeqAt (Ty.int .i64) 3 rdNum w9 B g A n c b p 8 70 #[.int .i64 u1, .int .i64 u2, .int .i64 u3, .int .i64 u4, .int .i64 u5, .int .i64 u6, .int .i64 u7, .slice A' k c', .slice none 0 0] (left b at9 bad9) j vs A2 c2 at' bad' wr) (fun i _ => q2 - (intOf i).toNat)
        case atStart => exact ⟨0, [], none, 0, at9, bad9, Nat.zero_le _, rfl, L9.out⟩
        case round =>
          obtain ⟨j, vs, A2, c2, atb, badb, hj, rfl, hT⟩ := hrel
          have HS := hid hT
          have hd3 := hT.rd.cells.2.2
          clear hT
          by_cases hgo : j < q2 ∧ badb = false
          · obtain ⟨hlt, rfl⟩ := hgo
            have hlt2 : (j : Int) < (q2 : Int) := by omega
            go_wp2_with fail
            obtain ⟨M, hMM⟩ : ∃ M : Nat → Prop, ∀ ii, M ii ↔ ((Value.slice A2 j c2).ownBlock = some ii ∨ ii = g) := ⟨_, fun _ => Iff.rfl⟩
            have MM := hid hMM
            have HOB := hid (show ∀ jj, (Value.slice A2 j c2).ownBlock = some jj → jj ≠ p ∧ jj ≠ g from fun jj hj => ⟨by have := HS.out.vec.inS jj hj; have := HPL9.out.2; omega, fun e => HS.out.vec.ne HS.out.rd.blk (by decide) (e ▸ hj)⟩)
            have hcell0 : ∀ wx, Chg M wr wx → wx.cell? ⟨p, 8, none⟩ = some (.slice A2 j c2) := fun wx hx => hx.cell (by rw [cellAt HS.out.blk]; rfl) (fun h => by rcases (MM.out _).1 h with h | h; exact (HOB.out _ h).1 rfl; exact hpg h)
            have HKL := hid HS.out.len
            clear hMM hd3
            refine wpB_start (fun wx : World => Chg M wr wx) (by kernel_rfl) ?_
            have hHeld : (fun wx : World => Chg M wr wx) _ := (by first | assumption | exact Chg.drew (Chg.refl _ _) | (show _ ∧ _; refine ⟨?_, ?_⟩ <;> assumption) | (first | assumption | exact hHeld.alloc _ | exact hHeld.trans hcr (fun _ h _ => (MM.out _).2 (.inr h)) | exact hHeld.trans h2 (fun _ h _ => (MM.out _).2 (.inl h))))
            -- 0: t67 := fieldAddr 70 t3 3 : 0
            refine wpB_take (i := 0) (v := ?_) (get_of_drop rfl) (by kernel_rfl) (by kernel_rfl) (by kernel_rfl) (by kernel_rfl) (fun _ _ _ h => h) (Or.inl ⟨by rfl, ?_⟩) hHeld ?_
            rotate_left
            · (intro w hSw; (try dsimp only at hSw); go_simp <;> with_reducible rfl)
            try simp only [Act.put, List.setIfInBounds_toArray, List.set_cons_zero, List.set_cons_succ]
            -- 1: t68 := fieldAddr 68 t67 5 : 0
            refine wpB_take (i := 1) (v := ?_) (get_of_drop rfl) (by kernel_rfl) (by kernel_rfl) (by kernel_rfl) (by kernel_rfl) (fun _ _ _ h => h) (Or.inl ⟨by rfl, ?_⟩) hHeld ?_
            rotate_left
            · (intro w hSw; (try dsimp only at hSw); go_simp <;> with_reducible rfl)
            try simp only [Act.put, List.setIfInBounds_toArray, List.set_cons_zero, List.set_cons_succ]
            -- 2: t69 := load 61 t68 : 61
            refine wpB_take (i := 2) (v := ?_) (get_of_drop rfl) (by kernel_rfl) (by kernel_rfl) (by kernel_rfl) (by kernel_rfl) (fun _ _ _ h => h) (Or.inl ⟨by rfl, ?_⟩) hHeld ?_
            rotate_left
            · (intro w hSw; (try dsimp only at hSw); go_simp <;> with_reducible rfl)
            try simp only [Act.put, List.setIfInBounds_toArray, List.set_cons_zero, List.set_cons_succ]
            -- 3: t70 := move t0 : 85
            refine wpB_take (i := 3) (v := ?_) (get_of_drop rfl) (by kernel_rfl) (by kernel_rfl) (by kernel_rfl) (by kernel_rfl) (fun _ _ _ h => h) (Or.inl ⟨by rfl, ?_⟩) hHeld ?_
            rotate_left
            · (intro w hSw; (try dsimp only at hSw); go_simp <;> with_reducible rfl)
            try simp only [Act.put, List.setIfInBounds_toArray, List.set_cons_zero, List.set_cons_succ]
            -- 4: t71 := CALL fn42(t70) : 3
            refine wpB_act (i := 4) (by kernel_rfl) (get_of_drop rfl) (fun K hK => ?_)
            go_simp
            refine (refnum_r (HS.out.rd.chg (Chg.refl (fun _ => False) wr).drew (fun _ h => h.elim) (fun h => h)) hn).mono ?_
            rintro e wy ⟨y, rfl, hyw, hcr, at2, bad2, hrr, eqr⟩
            have H5 := hid hrr
            have H6 := hid eqr
            have HYW := hid hyw
            have CR := hid (show Chg (fun k => k = g) wr wy from ((Chg.refl (fun k => k = g) wr).drew).trans hcr (fun _ h _ => h))
            have HVY := hid (HS.out.vec.chg CR.out (fun jj hj e => (HOB.out jj hj).2 e) (fun jj hj _ hl e => by subst e; have := HS.out.rd.lt; have := HPL9.out.2; have h9 : _ ≤ _ := hj; have := HPG9.out; omega))
            refine hK.out _ _ ?_ (fun hHeld2 => ?_)
            · (first | assumption | exact hHeld.alloc _ | exact hHeld.trans hcr (fun _ h _ => (MM.out _).2 (.inr h)) | exact hHeld.trans h2 (fun _ h _ => (MM.out _).2 (.inl h)))
            clear hHeld hK K
            have hHeld := hHeld2
            clear hHeld2
            try simp only [Act.put, List.setIfInBounds_toArray, List.set_cons_zero, List.set_cons_succ]
            -- 5: t72 := buildSlice 61 1 [⟨0, t71⟩] : 61
            refine wpB_act (i := 5) (by kernel_rfl) (get_of_drop rfl) (fun K hK => ?_)
            go_simp
            refine hK.out _ _ ?_ (fun hHeld2 => ?_)
            · (first | assumption | exact hHeld.alloc _ | exact hHeld.trans hcr (fun _ h _ => (MM.out _).2 (.inr h)) | exact hHeld.trans h2 (fun _ h _ => (MM.out _).2 (.inl h)))
            clear hHeld hK K
            have hHeld := hHeld2
            clear hHeld2
            try simp only [Act.put, List.setIfInBounds_toArray, List.set_cons_zero, List.set_cons_succ]
            -- 6: t73 := append(t69, t72) types [61, 61] : 61
            refine wpB_act (i := 6) (by kernel_rfl) (get_of_drop rfl) (fun K hK => ?_)
            refine vec_step (d := (Ty.int .i64)) _ rfl (.tmp 69) (.tmp 72) 61 3 (.int .i64 0) 8 rfl Try.underlying61 infoInt rfl (by decide) (by decide) (.slice A2 j c2) rfl (HVY.out.chg (((Chg.refl (fun _ => False) wy).alloc _)) (fun _ _ h => h) (fun _ _ _ _ h => h)) (some ⟨wy.heap.size, 0, none⟩) 1 1 (ys := [y]) rfl (by simp) (by omega) rfl (new_sees wy ([Value.int .i64 y]).toArray 3) (Ty.Row.one_ ⟨rfl, HYW.out⟩) (by rw [HKL.out]; omega) ?_
            have HH := hid hHeld
            rw [HKL.out]
            intro A4 c4 w4' h1 h2
            have f0' : w4'.frozen? ⟨p, 8, none⟩ = false := freeAt ((HH.out.trans h2 (fun _ h _ => (MM.out _).2 (.inl h))).blk HS.out.blk (fun h => by rcases (MM.out _).1 h with h | h; exact (HOB.out _ h).1 rfl; exact hpg h)) 8
            have c0' : w4'.cell? ⟨p, 8, none⟩ = some (.slice A2 j c2) := hcell0 _ (HH.out.trans h2 (fun _ h _ => (MM.out _).2 (.inl h)))
            refine hK.out _ _ ?_ (fun hHeld2 => ?_)
            · (first | assumption | exact hHeld.alloc _ | exact hHeld.trans hcr (fun _ h _ => (MM.out _).2 (.inr h)) | exact hHeld.trans h2 (fun _ h _ => (MM.out _).2 (.inl h)))
            clear hHeld hK K
            have hHeld := hHeld2
            clear hHeld2
            try simp only [Act.put, List.setIfInBounds_toArray, List.set_cons_zero, List.set_cons_succ]
            -- 7: t74 := fieldAddr 70 t3 3 : 0
            refine wpB_take (i := 7) (v := ?_) (get_of_drop rfl) (by kernel_rfl) (by kernel_rfl) (by kernel_rfl) (by kernel_rfl) (fun _ _ _ h => h) (Or.inl ⟨by rfl, ?_⟩) hHeld ?_
            rotate_left
            · (intro w hSw; (try dsimp only at hSw); go_simp <;> with_reducible rfl)
            try simp only [Act.put, List.setIfInBounds_toArray, List.set_cons_zero, List.set_cons_succ]
            -- 8: t75 := fieldAddr 68 t74 5 : 0
            refine wpB_take (i := 8) (v := ?_) (get_of_drop rfl) (by kernel_rfl) (by kernel_rfl) (by kernel_rfl) (by kernel_rfl) (fun _ _ _ h => h) (Or.inl ⟨by rfl, ?_⟩) hHeld ?_
            rotate_left
            · (intro w hSw; (try dsimp only at hSw); go_simp <;> with_reducible rfl)
            try simp only [Act.put, List.setIfInBounds_toArray, List.set_cons_zero, List.set_cons_succ]
            -- 9: t- := store 61 t75 t73 : 0 (BARRIER)
            refine wpB_bar (i := 9) (by kernel_rfl) (get_of_drop rfl) (by kernel_rfl) (fun K hK => ?_)
            go_simp
            refine hK.out _ _ (fun _ : World => True) ?_
            clear hHeld hK K
            have hHeld := trivial
            try simp only [Act.put, List.setIfInBounds_toArray, List.set_cons_zero, List.set_cons_succ]
            refine wpB_done (by kernel_rfl) ?_ _
            have HN := hid (HS.out.step (by decide) (w4 := w4') (A4 := A4) (c4 := c4) hpg CR.out H5.out H6.out HPL9.out (h1.mono (fun k h _ => by rcases h with h | h; exact h; exact Nat.le_trans (Nat.le_trans HS.out.chg.size CR.out.size) (Nat.le_trans (((Chg.refl (fun _ => False) wy).alloc _)).size h)) (fun k h _ => h)) (((Chg.refl (fun jj => (Value.slice A2 j c2).ownBlock = some jj) wy).alloc _).trans h2 (fun _ h _ => h)))
            clear h1 h2 hHeld hcell0 f0' c0' hcr hrr eqr hyw
            go_wp2_with fail
            go_roundw
            case measure => simp [intOf]; omega
            case rel => first | exact ⟨j + 1, _, _, _, _, _, hlt, by go_num, HN.out⟩ | ((repeat apply Exists.intro); exact ⟨⟨j + 1, _, _, _, _, _, hlt, by go_num, HN.out⟩, rfl⟩)
          · have HD2 := hid (HS.out.done EQ2.out hj (by cases badb with | true => exact .inr rfl | false => exact .inl (by have : ¬ j < q2 := fun h => hgo ⟨h, rfl⟩; omega)))
            have hex : ¬ (j : Int) < (q2 : Int) ∨ ((j : Int) < (q2 : Int) ∧ badb = true) := by
              by_cases h1 : j < q2
              · right
                refine ⟨by omega, ?_⟩
                cases badb with
                | true => rfl
                | false => exact absurd ⟨h1, rfl⟩ hgo
              · left; omega
            clear hgo
            have BP := hid (show wr.heap[p]? = some (.cells #[.int .i64 u1, .int .i64 u2, .int .i64 u3, .int .i64 u4, .int .i64 u5, .int .i64 u6, .int .i64 u7, .slice A' k c', .slice A2 j c2] 70 (0, 0)) from HS.out.blk)
            have D10 := hid (D9.out.trans HS.out.chg (fun _ h _ => h))
            have BT := hid (D10.out.blk (CP.out.blk (C3.out.blk B0.out (fun e => hgw e.symm)) (fun h => h)) (fun e => by rcases e with e | e; exact hgw e.symm; omega))
            have hwp : w.heap.size ≠ p := by omega
            have x0 : wr.cell? ⟨p, 0, none⟩ = _ := cellAt BP.out 0
            have y0 : wr.cell? ⟨w.heap.size, 0, none⟩ = _ := cellAt BT.out 0
            have f0 : wr.frozen? ⟨w.heap.size, 0, none⟩ = false := freeAt BT.out 0
            have x1 : wr.cell? ⟨p, 1, none⟩ = _ := cellAt BP.out 1
            have y1 : wr.cell? ⟨w.heap.size, 1, none⟩ = _ := cellAt BT.out 1
            have f1 : wr.frozen? ⟨w.heap.size, 1, none⟩ = false := freeAt BT.out 1
            have x2 : wr.cell? ⟨p, 2, none⟩ = _ := cellAt BP.out 2
            have y2 : wr.cell? ⟨w.heap.size, 2, none⟩ = _ := cellAt BT.out 2
            have f2 : wr.frozen? ⟨w.heap.size, 2, none⟩ = false := freeAt BT.out 2
            have x3 : wr.cell? ⟨p, 3, none⟩ = _ := cellAt BP.out 3
            have y3 : wr.cell? ⟨w.heap.size, 3, none⟩ = _ := cellAt BT.out 3
            have f3 : wr.frozen? ⟨w.heap.size, 3, none⟩ = false := freeAt BT.out 3
            have x4 : wr.cell? ⟨p, 4, none⟩ = _ := cellAt BP.out 4
            have y4 : wr.cell? ⟨w.heap.size, 4, none⟩ = _ := cellAt BT.out 4
            have f4 : wr.frozen? ⟨w.heap.size, 4, none⟩ = false := freeAt BT.out 4
            have x5 : wr.cell? ⟨p, 5, none⟩ = _ := cellAt BP.out 5
            have y5 : wr.cell? ⟨w.heap.size, 5, none⟩ = _ := cellAt BT.out 5
            have f5 : wr.frozen? ⟨w.heap.size, 5, none⟩ = false := freeAt BT.out 5
            have x6 : wr.cell? ⟨p, 6, none⟩ = _ := cellAt BP.out 6
            have y6 : wr.cell? ⟨w.heap.size, 6, none⟩ = _ := cellAt BT.out 6
            have f6 : wr.frozen? ⟨w.heap.size, 6, none⟩ = false := freeAt BT.out 6
            have x7 : wr.cell? ⟨p, 7, none⟩ = _ := cellAt BP.out 7
            have y7 : wr.cell? ⟨w.heap.size, 7, none⟩ = _ := cellAt BT.out 7
            have f7 : wr.frozen? ⟨w.heap.size, 7, none⟩ = false := freeAt BT.out 7
            have x8 : wr.cell? ⟨p, 8, none⟩ = _ := cellAt BP.out 8
            have y8 : wr.cell? ⟨w.heap.size, 8, none⟩ = _ := cellAt BT.out 8
            have f8 : wr.frozen? ⟨w.heap.size, 8, none⟩ = false := freeAt BT.out 8
            simp only [List.getElem?_toArray, List.getElem?_cons_zero, List.getElem?_cons_succ] at x0 y0 x1 y1 x2 y2 x3 y3 x4 y4 x5 y5 x6 y6 x7 y7 x8 y8
            rcases hex with hex | ⟨hex, rfl⟩
            all_goals
              go_wp2_with fail
              obtain ⟨PB, PC⟩ := put_blk (entryCells (mkEntry [u1, u2, u3, u4, u5, u6, u7] us vs) A' k c' A2 j c2) wr _ BT.out rfl
              generalize hW : (((((((((wr.setCell ⟨w.heap.size, 0, none⟩ (.int .i64 u1)).setCell ⟨w.heap.size, 1, none⟩ (.int .i64 u2)).setCell ⟨w.heap.size, 2, none⟩ (.int .i64 u3)).setCell ⟨w.heap.size, 3, none⟩ (.int .i64 u4)).setCell ⟨w.heap.size, 4, none⟩ (.int .i64 u5)).setCell ⟨w.heap.size, 5, none⟩ (.int .i64 u6)).setCell ⟨w.heap.size, 6, none⟩ (.int .i64 u7)).setCell ⟨w.heap.size, 7, none⟩ (.slice A' k c')).setCell ⟨w.heap.size, 8, none⟩ (.slice A2 j c2)) = W
              have PB' : W.heap[w.heap.size]? = some (.cells (entryCells (mkEntry [u1, u2, u3, u4, u5, u6, u7] us vs) A' k c' A2 j c2).toArray 70 (0, 0)) := by rw [← hW]; exact PB
              have PC' : Chg (fun k => k = w.heap.size) wr W := by rw [← hW]; exact PC
              clear PB PC hW x0 y0 x1 y1 x2 y2 x3 y3 x4 y4 x5 y5 x6 y6 x7 y7 x8 y8 f0 f1 f2 f3 f4 f5 f6 f7 f8 hd3
              have z0 : W.cell? ⟨w.heap.size, 0, none⟩ = some (.int .i64 u1) := by rw [cellAt PB']; rfl
              have z1 : W.cell? ⟨w.heap.size, 1, none⟩ = some (.int .i64 u2) := by rw [cellAt PB']; rfl
              have z2 : W.cell? ⟨w.heap.size, 2, none⟩ = some (.int .i64 u3) := by rw [cellAt PB']; rfl
              have z3 : W.cell? ⟨w.heap.size, 3, none⟩ = some (.int .i64 u4) := by rw [cellAt PB']; rfl
              have z4 : W.cell? ⟨w.heap.size, 4, none⟩ = some (.int .i64 u5) := by rw [cellAt PB']; rfl
              have z5 : W.cell? ⟨w.heap.size, 5, none⟩ = some (.int .i64 u6) := by rw [cellAt PB']; rfl
              have z6 : W.cell? ⟨w.heap.size, 6, none⟩ = some (.int .i64 u7) := by rw [cellAt PB']; rfl
              have z7 : W.cell? ⟨w.heap.size, 7, none⟩ = some (.slice A' k c') := by rw [cellAt PB']; rfl
              have z8 : W.cell? ⟨w.heap.size, 8, none⟩ = some (.slice A2 j c2) := by rw [cellAt PB']; rfl
              refine bodyPost_ret (v := .agg #[.int .i64 u1, .int .i64 u2, .int .i64 u3, .int .i64 u4, .int .i64 u5, .int .i64 u6, .int .i64 u7, .slice A' k c', .slice A2 j c2]) (by simp [results, Try.results62, go_sem, z0, z1, z2, z3, z4, z5, z6, z7, z8]) rfl ?_
              have s8 := D8.out.size
              have s3 := C3.out.size
              have sp := CP.out.size
              have s1 := HC1.out.size
              have s0 := C0.out.size
              have s9 := HPL9.out.2
              have s88 := HPL.out.2
              have gl := HG.out
              have ch := D10.out
              refine ⟨mkEntry [u1, u2, u3, u4, u5, u6, u7] us vs, A', k, c', A2, j, c2, rfl, ⟨?_, ?_, ?_⟩, ?_, atb, _, HS.out.rd.chg PC' (fun k hk => by subst hk; exact Nat.le_trans H.out.low (Nat.le_of_lt gl)) hgw, thenRd_eq _ (thenRd_eq _ E7.out HD1.out) HD2.out⟩
              · intro u hu
                simp [mkEntry, Entry.nums] at hu
                rcases hu with rfl | rfl | rfl | rfl | rfl | rfl | rfl
                · exact W1.out
                · exact W2.out
                · exact W3.out
                · exact W4.out
                · exact W5.out
                · exact W6.out
                · exact W7.out
              · have q1 := (HV2.out.chg HS.out.chg (fun j' hj' e => by have := HV2.out.inS _ hj'; have := HPL.out.2; have := HPG8.out; rcases e with e | e <;> omega) (fun j' hj' _ _ e => by have := HPL.out.2; have := HPG8.out; rcases e with e | e <;> omega)).chg PC' (fun j' hj' e => by have := HV2.out.inS _ hj'; omega) (fun j' hj' _ _ e => by omega)
                exact q1.at.mono (fun k hk => by rcases hk with hk | hk <;> omega)
              · have q1 := HS.out.vec.chg PC' (fun j' hj' e => by have := HS.out.vec.inS _ hj'; omega) (fun j' hj' _ _ e => by omega)
                exact q1.at.mono (fun k hk => by rcases hk with hk | hk <;> omega)
              · have q0 : Chg (fun k => k = g) w w3' := ((C0.out.mono (S' := fun k => k = g) (fun _ h _ => h.elim)).trans C3.out (fun _ h _ => h)).trans CP.out (fun _ h _ => h.elim)
                refine (q0.trans ch (fun k hk hl => ?_)).trans PC' (fun k hk hl => ?_)
                · rcases hk with hk | hk
                  · exact hk
                  · omega
                · omega
end Go.Proofs.Ytcmfgijdelaelaa.Pa
