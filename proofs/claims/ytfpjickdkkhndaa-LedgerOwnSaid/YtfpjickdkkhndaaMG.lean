/- Texts of this claim, one behind the other: LedK, LedA, LedB, LedD, LedE, LedF, LedG. -/
import Derived.Test.YtfpjickdkkhndaaMF
import Derived.Test.YtfpjickdkkhndaaME
import Derived.Test.YtfpjickdkkhndaaMC
import Derived.Test.YtfpjickdkkhndaaMD
import Derived.WalkMore

/- The contract of copied. -/

namespace Go.Proofs.Ytfpjickdkkhndaa.Pa

set_option linter.unusedVariables false

set_option linter.unusedSimpArgs false

open Go.RowKit Go.Proofs.Ytfpjickdkkhndaa.C

attribute [local go_sem] max2_int min2_int max_two min_two

/-- How many rules and numbers entries may have, so that a copy of them has room. -/
def Fits (xs : List Entry) : Prop := ∀ e ∈ xs, e.put.length ≤ 1000000 ∧ e.drop.length ≤ 1000000
theorem entryR_fits {e : Entry} (h : entryR e = true) : e.put.length ≤ 1000000 ∧ e.drop.length ≤ 1000000 := by
  unfold entryR at h
  simp only [Bool.and_eq_true, decide_eq_true_eq] at h
  have h1 := h.1.1.1.2
  have h2 := h.1.1.2
  omega
theorem fits_right {xs : List Entry} (h : ∀ e ∈ xs, entryR e = true) : Fits xs := fun e he => entryR_fits (h e he)
def Copied (xs : List Entry) (n : Nat) (w : World) (e' : Ending) (w' : World) : Prop :=
  ∃ A' c', e' = .returned (.slice A' n c') ∧ Ty.At entryK w' (fun k => w.heap.size ≤ k ∧ k < w'.heap.size) A' n c' xs ∧ Chg (fun _ => False) w w'
theorem infoRuleP : (Try.prog.info? 54).map (fun i => (i.zero, i.size, i.bytes)) = some (some (.agg #[.int .i64 0, .int .i64 0, .int .i64 0, .int .i64 0, .string ByteArray.empty]), 5, 48) := by kernel_rfl
theorem infoEntryP : (Try.prog.info? 52).map (fun i => (i.zero, i.size, i.bytes)) = some (some (.agg #[.int .i64 0, .int .i64 0, .int .i64 0, .int .i64 0, .int .i64 0, .int .i64 0, .int .i64 0, .slice none 0 0, .slice none 0 0]), 9, 104) := by kernel_rfl
set_option maxHeartbeats 4000000 in
set_option maxRecDepth 100000 in
theorem copied_any {w : World} {R : Nat → Prop} {xs : List Entry} {A : Option Addr} {n c : Nat} (hl : Ty.At entryK w R A n c xs) (hn : n ≤ 1000000) (hput : Fits xs) :
    Calls Try.prog 34 #[.slice A n c] w (Copied xs n w) := by
  have HL := hid hl.bound
  have L1 := hid hl.1
  have HPUT := hid hput
  have hn2 : (n : Int) ≤ 1000000 := by omega
  clear hl hput
  go_enter Try.func34, Try.ntmps34
  go_wp2_with fail
  go_loopw [3, 8] (fun sl i wr => ∃ (k : Nat) (A' : Option Addr) (c' : Nat), k ≤ n ∧ i = .int .i64 k ∧ sl = .slice A' k c' ∧ Vec entryK 52 wr (fun k => w.heap.size ≤ k) (fun k => w.heap.size ≤ k) (.slice A' k c') (xs.take k) ∧ Chg (fun _ => False) w wr) (fun _ i _ => n - (intOf i).toNat)
  case atStart => exact ⟨0, none, 0, Nat.zero_le _, rfl, rfl, Vec.nil _ _ _ _ _, Chg.refl _ _⟩
  case round =>
    obtain ⟨k, A', c', hk, rfl, rfl, hV, hC⟩ := hrel
    have HV := hid hV
    have HC := hid hC
    clear hV hC
    by_cases hlt : k < n
    · have hlt2 : (k : Int) < (n : Int) := by omega
      obtain ⟨r, hr⟩ : ∃ r, xs[k]? = some r := ⟨_, List.getElem?_eq_getElem (by have := L1.out; omega)⟩
      have hpl := HPUT.out r (List.mem_of_getElem? hr)
      obtain ⟨a, cs, ha, haR, hK, hcs⟩ := HL.out.get (by decide) hr
      obtain ⟨E1, m1, d1, E2, m2, d2, rfl, hrw⟩ := entry_open (id hK)
      subst ha
      have hcs2 : ∀ j u, (entryCells r E1 m1 d1 E2 m2 d2)[j]? = some u → wr.cell? (a.add (k * 9 + j)) = some u := fun j u hj => HC.out.cell (hcs j u hj) (fun h => h)
      have x0 := elem_cell0 hcs2 _ rfl
      have x1 := elem_cell hcs2 0 _ rfl
      have x2 := elem_cell hcs2 1 _ rfl
      have x3 := elem_cell hcs2 2 _ rfl
      have x4 := elem_cell hcs2 3 _ rfl
      have x5 := elem_cell hcs2 4 _ rfl
      have x6 := elem_cell hcs2 5 _ rfl
      have x7 := elem_cell hcs2 6 _ rfl
      have x8 := elem_cell hcs2 7 _ rfl
      have HRW := hid (hrw.chg HC.out (fun _ _ h => h))
      have HTK := hid (show xs.take (k + 1) = xs.take k ++ [r] by rw [List.take_add_one, hr]; rfl)
      have HKL := hid (show (xs.take k).length = k by rw [List.length_take]; have := L1.out; omega)
      have hm1 : m1 ≤ 1000000 := by have := hrw.2.1.1; omega
      have hm2 : m2 ≤ 1000000 := by have := hrw.2.2.1; omega
      obtain ⟨W1, hW1⟩ : ∃ W1, W1 = wr.alloc (.cells #[.int .i64 r.view, .int .i64 r.client, .int .i64 r.request, .int .i64 r.dflt, .int .i64 r.closed, .int .i64 r.fuel, .int .i64 r.stack, .slice E1 m1 d1, .slice E2 m2 d2] 52) := ⟨_, rfl⟩
      have C1 := hid (show Chg (fun _ => False) wr W1 by rw [hW1]; exact (Chg.refl _ wr).alloc _)
      have B1 := hid (show W1.heap[wr.heap.size]? = some (.cells #[.int .i64 r.view, .int .i64 r.client, .int .i64 r.request, .int .i64 r.dflt, .int .i64 r.closed, .int .i64 r.fuel, .int .i64 r.stack, .slice E1 m1 d1, .slice E2 m2 d2] 52 (0, 0)) by rw [hW1]; exact blk_new wr _)
      have z7 : W1.cell? ⟨wr.heap.size, 7, none⟩ = some (.slice E1 m1 d1) := (cellAt B1.out 7).trans rfl
      clear hcs hK hcs2 hr haR hrw hpl
      go_wp2_with (first
        | ((with_reducible refine at_dst (N := 15) rfl ?_); rw [← hW1]; clear hW1; refine app_new (d := ruleK) _ rfl (.const (.slice none 0 0)) (.tmp 14) 47 54 (.agg #[.int .i64 0, .int .i64 0, .int .i64 0, .int .i64 0, .string ByteArray.empty]) 48 rfl Try.underlying47 infoRuleP rfl (by decide) (by decide) rfl E1 m1 d1 rfl (HRW.out.2.1.chg C1.out (fun _ _ h => h)) flat_rule (by omega) ?_; intro A5 c5 w5 g1 g2; have G1 := hid g1; have G2 := hid g2; have B5 := hid (g2.blk B1.out (fun h => h)); clear g1 g2 z7 x0 x1 x2 x3 x4 x5 x6 x7 x8; have f7 : w5.frozen? ⟨wr.heap.size, 7, none⟩ = false := freeAt B5.out 7; have z7 : w5.cell? ⟨wr.heap.size, 7, none⟩ = some (.slice E1 m1 d1) := (cellAt B5.out 7).trans rfl; have z8 : w5.cell? ⟨wr.heap.size, 8, none⟩ = some (.slice E2 m2 d2) := (cellAt B5.out 8).trans rfl)
        | ((with_reducible refine at_dst (N := 21) rfl ?_); obtain ⟨W5, hW5⟩ : ∃ W5, W5 = w5.setCell ⟨wr.heap.size, 7, none⟩ (.slice A5 m1 c5) := ⟨_, rfl⟩; rw [← hW5]; have B6 := hid (show W5.heap[wr.heap.size]? = some (.cells #[.int .i64 r.view, .int .i64 r.client, .int .i64 r.request, .int .i64 r.dflt, .int .i64 r.closed, .int .i64 r.fuel, .int .i64 r.stack, .slice A5 m1 c5, .slice E2 m2 d2] 52 (0, 0)) by rw [hW5]; exact blk_set B5.out 7 _); have S5 := hid (show Chg (fun k => k = wr.heap.size) w5 W5 by rw [hW5]; exact (Chg.refl (fun k => k = wr.heap.size) w5).set (fun _ => rfl) _); have CC5 := hid (show Chg (fun _ => False) wr W5 from ((C1.out.trans G2.out (fun _ h _ => h)).trans (S := fun _ => False) S5.out (fun k hk hl => by subst hk; exact Nat.lt_irrefl _ hl))); clear hW5 f7 z7 z8; refine app_new (d := Ty.int .i64) _ rfl (.const (.slice none 0 0)) (.tmp 20) 48 3 (.int .i64 0) 8 rfl Try.underlying48 infoInt rfl (by decide) (by decide) rfl E2 m2 d2 rfl (HRW.out.2.2.chg CC5.out (fun _ _ h => h)) (flat_int _) (by omega) ?_; intro A6 c6 w6 g1 g2; have G3 := hid g1; have G4 := hid g2; have B7 := hid (g2.blk B6.out (fun h => h)); clear g1 g2; have f8 : w6.frozen? ⟨wr.heap.size, 8, none⟩ = false := freeAt B7.out 8; have z8 : w6.cell? ⟨wr.heap.size, 8, none⟩ = some (.slice E2 m2 d2) := (cellAt B7.out 8).trans rfl)
        | ((with_reducible refine at_dst (N := 25) rfl ?_); obtain ⟨W6, hW6⟩ : ∃ W6, W6 = w6.setCell ⟨wr.heap.size, 8, none⟩ (.slice A6 m2 c6) := ⟨_, rfl⟩; rw [← hW6]; have B8 := hid (show W6.heap[wr.heap.size]? = some (.cells #[.int .i64 r.view, .int .i64 r.client, .int .i64 r.request, .int .i64 r.dflt, .int .i64 r.closed, .int .i64 r.fuel, .int .i64 r.stack, .slice A5 m1 c5, .slice A6 m2 c6] 52 (0, 0)) by rw [hW6]; exact blk_set B7.out 8 _); have S6 := hid (show Chg (fun k => k = wr.heap.size) w6 W6 by rw [hW6]; exact (Chg.refl (fun k => k = wr.heap.size) w6).set (fun _ => rfl) _); have CC := hid (show Chg (fun _ => False) wr W6 from ((CC5.out.trans G4.out (fun _ h _ => h)).trans (S := fun _ => False) S6.out (fun k hk hl => by subst hk; exact Nat.lt_irrefl _ hl))); clear hW6 f8 z8; have lt1 := lt_of_blk B1.out; have lt5 := lt_of_blk B6.out; have PUT := hid (show ∀ w', Chg (fun _ => False) W6 w' → Ty.At ruleK w' (fun k' => w.heap.size ≤ k' ∧ (Value.slice A' k c').ownBlock ≠ some k' ∧ k' < w'.heap.size) A5 m1 c5 r.put from fun w' hc => ((((G1.out.chg S5.out (fun j hj e => by have := hj.1; omega)).chg G4.out (fun _ _ h => h)).chg S6.out (fun j hj e => by have := hj.1; omega)).chg hc (fun _ _ h => h)).mono (fun j hj => ⟨by have q1 := hj.1; have q2 := HC.out.size; omega, fun e => by have q1 := hj.1; have q2 := HV.out.lt j e; omega, Nat.lt_of_lt_of_le hj.2 (Nat.le_trans (Nat.le_trans (Nat.le_trans S5.out.size G4.out.size) S6.out.size) hc.size)⟩)); have DRP := hid (show ∀ w', Chg (fun _ => False) W6 w' → Ty.At (Ty.int .i64) w' (fun k' => w.heap.size ≤ k' ∧ (Value.slice A' k c').ownBlock ≠ some k' ∧ k' < w'.heap.size) A6 m2 c6 r.drop from fun w' hc => ((G3.out.chg S6.out (fun j hj e => by have := hj.1; omega)).chg hc (fun _ _ h => h)).mono (fun j hj => ⟨by have q1 := hj.1; have q2 := HC.out.size; omega, fun e => by have q1 := hj.1; have q2 := HV.out.lt j e; omega, Nat.lt_of_lt_of_le hj.2 (Nat.le_trans S6.out.size hc.size)⟩)); clear lt1 lt5; have y0 : W6.cell? ⟨wr.heap.size, 0, none⟩ = some (.int .i64 r.view) := (cellAt B8.out 0).trans rfl; have y1 : W6.cell? ⟨wr.heap.size, 1, none⟩ = some (.int .i64 r.client) := (cellAt B8.out 1).trans rfl; have y2 : W6.cell? ⟨wr.heap.size, 2, none⟩ = some (.int .i64 r.request) := (cellAt B8.out 2).trans rfl; have y3 : W6.cell? ⟨wr.heap.size, 3, none⟩ = some (.int .i64 r.dflt) := (cellAt B8.out 3).trans rfl; have y4 : W6.cell? ⟨wr.heap.size, 4, none⟩ = some (.int .i64 r.closed) := (cellAt B8.out 4).trans rfl; have y5 : W6.cell? ⟨wr.heap.size, 5, none⟩ = some (.int .i64 r.fuel) := (cellAt B8.out 5).trans rfl; have y6 : W6.cell? ⟨wr.heap.size, 6, none⟩ = some (.int .i64 r.stack) := (cellAt B8.out 6).trans rfl; have y7 : W6.cell? ⟨wr.heap.size, 7, none⟩ = some (.slice A5 m1 c5) := (cellAt B8.out 7).trans rfl; have y8 : W6.cell? ⟨wr.heap.size, 8, none⟩ = some (.slice A6 m2 c6) := (cellAt B8.out 8).trans rfl)
        | ((with_reducible refine at_dst (N := 27) rfl ?_); clear y0 y1 y2 y3 y4 y5 y6 y7 y8; refine vec_list (d := entryK) _ rfl (.tmp 24) (.tmp 26) 30 52 (.agg #[.int .i64 0, .int .i64 0, .int .i64 0, .int .i64 0, .int .i64 0, .int .i64 0, .int .i64 0, .slice none 0 0, .slice none 0 0]) 104 rfl Try.underlying30 infoEntryP rfl (by decide) (by decide) (.slice A' k c') rfl ((HV.out.chg CC.out (fun _ _ h => h) (fun _ _ _ _ h => h)).chg ((Chg.refl (fun _ => False) W6).alloc (.cells #[.int .i64 r.view, .int .i64 r.client, .int .i64 r.request, .int .i64 r.dflt, .int .i64 r.closed, .int .i64 r.fuel, .int .i64 r.stack, .slice A5 m1 c5, .slice A6 m2 c6] 52)) (fun _ _ h => h) (fun _ _ _ _ h => h)) (some ⟨W6.heap.size, 0, none⟩) 1 1 (ys := [r]) rfl (by simp) (by omega) rfl (new_sees W6 #[.int .i64 r.view, .int .i64 r.client, .int .i64 r.request, .int .i64 r.dflt, .int .i64 r.closed, .int .i64 r.fuel, .int .i64 r.stack, .slice A5 m1 c5, .slice A6 m2 c6] 52) (Ty.Row.one_ (entry_shut (A1 := A5) (n1 := m1) (c1 := c5) (A2 := A6) (n2 := m2) (c2 := c6) ⟨HRW.out.1, PUT.out _ ((Chg.refl (fun _ => False) W6).alloc _), DRP.out _ ((Chg.refl (fun _ => False) W6).alloc _)⟩)) (by rw [HKL.out]; omega) ?_; rw [HKL.out, ← HTK.out]; intro A7 c7 w7 h1 h2; have HVN := hid (h1.mono (S' := fun k => w.heap.size ≤ k) (D' := fun k => w.heap.size ≤ k) (fun j h _ => by rcases h with h | h; exact h; exact Nat.le_trans (Nat.le_trans HC.out.size CC.out.size) (Nat.le_trans ((Chg.refl (fun _ => False) W6).alloc _).size h)) (fun _ h _ => h)); have HCN := hid (show Chg (fun _ => False) w w7 from (((HC.out.trans CC.out (fun _ h _ => h)).alloc _).trans h2 (fun j hj hl => by have := HV.out.inS j hj; omega))); clear h1 h2))
      go_roundw
      case measure => simp [intOf]; omega
      case rel => first | exact ⟨k + 1, A7, c7, hlt, by go_num, rfl, HVN.out, HCN.out⟩ | ((repeat apply Exists.intro); exact ⟨⟨k + 1, A7, c7, hlt, by go_num, rfl, HVN.out, HCN.out⟩, rfl⟩)
    · have hkn : ¬ (k : Int) < (n : Int) := by omega
      obtain rfl : k = n := by omega
      go_wp2_with fail
      go_ret
      have hv := HV.out
      rw [List.take_of_length_le (by have := L1.out; omega)] at hv
      exact ⟨A', c', rfl, (hv.at.bound).mono (fun k hk => ⟨by rcases hk.1 with h | h <;> exact h, hk.2⟩), HC.out⟩
end Go.Proofs.Ytfpjickdkkhndaa.Pa


/- The contract of apply. -/

namespace Go.Proofs.Ytfpjickdkkhndaa.Pa

set_option linter.unusedVariables false

set_option linter.unusedSimpArgs false

open Go.RowKit Go.Proofs.Ytfpjickdkkhndaa.C

attribute [local go_sem] max2_int min2_int max_two min_two
theorem at_clip {α : Type} {d : Ty α} {w : World} {S : Nat → Prop} {A : Option Addr} {n c : Nat} {xs : List α} (h : Ty.At d w S A n c xs) : Ty.At d w S A n n xs := by
  obtain ⟨h1, h2, h3, h4, h5⟩ := h
  exact ⟨h1, Nat.le_refl _, Nat.le_trans h2 h3, fun e => by have := h4 e; omega, h5⟩
set_option maxHeartbeats 4000000 in
set_option maxRecDepth 100000 in
theorem clip_any {w : World} {A : Option Addr} {n c : Nat} (hn : n ≤ c) (hm : n ≤ 1000000000) :
    Calls Try.prog 56 #[.slice A n c] w fun e w' => e = .returned (.slice A n n) ∧ w = w' := by
  have ha : (A.map fun x => x.add 0) = A := by cases A <;> simp [Addr.add]
  have hcut : ∀ W : World, (Instr.slice 30 (.slice A n c) none (some (.int .i64 (n : Int))) (some (.int .i64 (n : Int)))).run Try.prog W = .ok (.slice A n n) W := fun W => by
    obtain ⟨i, hi, _, hs, _⟩ := info_parts infoEntryP
    have hel : Try.prog.elem 30 = 52 := by simp [Program.elem, Try.underlying30]
    have h0 : (0 : Int) ≤ (n : Int) := by omega
    have h1 : (n : Int) ≤ (c : Int) := by omega
    rw [run_slice_any W 30 A n c (by rw [hel]; exact Try.underlying30), hel]
    simp [Instr.sliceBounds, run_sliceBound, h0, h1, sizeOf, typeInfo, hi, sliced, Result.andThen, ha]
  go_enter Try.func56, Try.ntmps56
  go_wp2_with fail
  go_ret
  exact ⟨rfl, rfl⟩
/-- What apply does. -/
def Applied (R : Nat → Prop) (q t : Nat) (pre post : List Value) (s : St) (r : Rec) (w : World) (e' : Ending) (w' : World) : Prop :=
  (applyS s r = none ∧ e' = .returned (.bool false) ∧ Chg (fun _ => False) w w') ∨
  ∃ s' A' n' c', applyS s r = some s' ∧ e' = .returned (.bool true) ∧ w'.heap[q]? = some (.cells (stRow pre post s' A' n' c') t (0, 0)) ∧ Ty.At entryK w' (fun k => (R k ∨ w.heap.size ≤ k) ∧ k < w'.heap.size) A' n' c' s'.log ∧ Chg (fun k => k = q) w w'
set_option maxHeartbeats 4000000 in
set_option maxRecDepth 100000 in
theorem apply_any {w : World} {R R2 : Nat → Prop} {q o t : Nat} {pre post : List Value} {s : St} {A : Option Addr} {n c : Nat} {r : Rec} {B : Option Addr} {k d : Nat} (ho : pre.length = o)
    (hq : w.heap[q]? = some (.cells (stRow pre post s A n c) t (0, 0))) (hl : Ty.At entryK w R A n c s.log) (hR : ¬ R q) (hr : Ty.At entryK w R2 B k d r.log) (hs : stR s = true) (hrr : recR r = true) :
    Calls Try.prog 32 #[.pointer (some ⟨q, o, none⟩), .agg #[.int .i64 r.kind, .int .i64 r.a, .int .i64 r.b, .slice B k d]] w (Applied R q t pre post s r w) := by
  obtain ⟨w0, hw0⟩ : ∃ w0, w0 = w.alloc (.cells #[.int .i64 r.kind, .int .i64 r.a, .int .i64 r.b, .slice B k d] 62) := ⟨_, rfl⟩
  have C0 := hid (show Chg (fun _ => False) w w0 by rw [hw0]; exact (Chg.refl _ w).alloc _)
  have B0 := hid (show w0.heap[w.heap.size]? = some (.cells #[.int .i64 r.kind, .int .i64 r.a, .int .i64 r.b, .slice B k d] 62 (0, 0)) by rw [hw0]; exact blk_new w _)
  have Q0 := hid (show w0.heap[q]? = some (.cells (stRow pre post s A n c) t (0, 0)) from C0.out.blk hq (fun h => h))
  have hqs := hid (lt_of_blk hq)
  have hq1 : q < w.heap.size := hqs.out
  have hq2 : q ≠ w.heap.size := by omega
  have hq3 : w.heap.size ≠ q := by omega
  have HL := hid (hl.bound.chg C0.out (fun _ _ h => h))
  have HR := hid (hr.bound.chg C0.out (fun _ _ h => h))
  have HNR := hid hR
  have L1 := hid hl.1
  have L2 := hid hl.2.1
  have HS := hid hs
  have HRR := hid hrr
  have get : ∀ i u, (stRow pre post s A n c)[o + i]? = some u → w0.cell? ⟨q, o + i, none⟩ = some u := fun i u hu => (cellAt Q0.out _).trans hu
  have y0 : w0.cell? ⟨q, o, none⟩ = some (.int .i64 s.view) := get 0 _ (by rw [← ho]; exact (row_get pre _ 0).trans rfl)
  have y1 : w0.cell? ⟨q, o + 1, none⟩ = some (.int .i64 s.normal) := get 1 _ (by rw [← ho]; exact (row_get pre _ 1).trans rfl)
  have y2 : w0.cell? ⟨q, o + 2, none⟩ = some (.int .i64 s.commit) := get 2 _ (by rw [← ho]; exact (row_get pre _ 2).trans rfl)
  have y3 : w0.cell? ⟨q, o + 3, none⟩ = some (.int .i64 s.active) := get 3 _ (by rw [← ho]; exact (row_get pre _ 3).trans rfl)
  have y4 : w0.cell? ⟨q, o + 4, none⟩ = some (.slice A n c) := get 4 _ (by rw [← ho]; exact (row_get pre _ 4).trans rfl)
  have HO := hid ho
  have x0 : w0.cell? ⟨w.heap.size, 0, none⟩ = some (.int .i64 r.kind) := (cellAt B0.out 0).trans rfl
  have x1 : w0.cell? ⟨w.heap.size, 1, none⟩ = some (.int .i64 r.a) := (cellAt B0.out 1).trans rfl
  have x2 : w0.cell? ⟨w.heap.size, 2, none⟩ = some (.int .i64 r.b) := (cellAt B0.out 2).trans rfl
  have x3 : w0.cell? ⟨w.heap.size, 3, none⟩ = some (.slice B k d) := (cellAt B0.out 3).trans rfl
  have HF : ∀ i, w0.frozen? ⟨q, i, none⟩ = false := fun i => freeAt Q0.out i
  have f0 := HF o
  have f1 := HF (o + 1)
  have f2 := HF (o + 2)
  have f3 := HF (o + 3)
  have f4 := HF (o + 4)
  clear hq hl hR hr hs hrr get ho HF
  have hrl := (recR_iff.1 HRR.out)
  have hn64 : (n : Int) ≤ 64 := by have h1 := (stR_iff.1 HS.out).1; have h2 := L1.out; omega
  obtain ⟨kind, a, b, log⟩ := r
  simp only at *
  have hkd : kind = 1 ∨ kind = 2 ∨ kind = 3 ∨ kind = 4 ∨ kind = 5 := by have := hrl.1.1; omega
  have HRL := hid hrl
  clear hrl
  rcases hkd with rfl | rfl | rfl | rfl | rfl
  · by_cases c1 : s.view ≤ a
    case neg =>
      have c1' : decide (s.view ≤ a) = false := decide_eq_false c1
      have G := hid (show applyS s ⟨1, a, b, log⟩ = none by rw [applyS1, if_neg (fun h => c1 h.1)])
      go_enter Try.func32, Try.ntmps32
      go_wp2_with fail
      rw [← hw0]
      clear hw0
      go_region
      go_wp2_with fail
      go_region
      go_wp2_with fail
      go_region
      go_wp2_with fail
      go_ret
      exact .inl ⟨G.out, rfl, ((C0.out.drew).drew).drew⟩
    have c1' : decide (s.view ≤ a) = true := decide_eq_true c1
    by_cases c2 : s.normal ≤ b
    case neg =>
      have c2' : decide (s.normal ≤ b) = false := decide_eq_false c2
      have G := hid (show applyS s ⟨1, a, b, log⟩ = none by rw [applyS1, if_neg (fun h => c2 h.2.1)])
      go_enter Try.func32, Try.ntmps32
      go_wp2_with fail
      rw [← hw0]
      clear hw0
      go_region
      go_wp2_with fail
      go_region
      go_wp2_with fail
      go_region
      go_wp2_with fail
      go_ret
      exact .inl ⟨G.out, rfl, ((C0.out.drew).drew).drew⟩
    have c2' : decide (s.normal ≤ b) = true := decide_eq_true c2
    by_cases c3 : b ≤ a
    case neg =>
      have c3' : decide (b ≤ a) = false := decide_eq_false c3
      have G := hid (show applyS s ⟨1, a, b, log⟩ = none by rw [applyS1, if_neg (fun h => c3 h.2.2)])
      go_enter Try.func32, Try.ntmps32
      go_wp2_with fail
      rw [← hw0]
      clear hw0
      go_region
      go_wp2_with fail
      go_region
      go_wp2_with fail
      go_region
      go_wp2_with fail
      go_ret
      exact .inl ⟨G.out, rfl, ((C0.out.drew).drew).drew⟩
    have c3' : decide (b ≤ a) = true := decide_eq_true c3
    have G := hid (show applyS s ⟨1, a, b, log⟩ = some { s with view := a, normal := b } by rw [applyS1, if_pos ⟨c1, c2, c3⟩])
    go_enter Try.func32, Try.ntmps32
    go_wp2_with fail
    rw [← hw0]
    clear hw0
    go_region
    go_wp2_with fail
    go_region
    go_wp2_with fail
    go_ret
    have hC := (((Chg.refl (fun k => k = q) w0).drew.drew.set (p := ⟨q, o, none⟩) (fun _ => rfl) (.int .i64 a)).set (p := ⟨q, o + 1, none⟩) (fun _ => rfl) (.int .i64 b))
    have hB := (blk_set ((blk_set (Q0.out) (o) (.int .i64 a))) (o + 1) (.int .i64 b))
    obtain rfl := HO.out
    rw [st_set0, st_set1] at hB
    refine .inr ⟨_, A, n, c, G.out, rfl, hB, ((HL.out).chg hC (fun j hj e => HNR.out (e ▸ hj.1))).mono (fun j hj => ⟨.inl hj.1, Nat.lt_of_lt_of_le hj.2 (Nat.le_trans C0.out.size hC.size)⟩), (C0.out.mono (fun _ h _ => h.elim)).trans hC (fun _ h _ => h)⟩
  · by_cases c1 : (n : Int) < 64
    case neg =>
      have c1' : decide ((n : Int) < 64) = false := decide_eq_false c1
      have G := hid (show applyS s ⟨2, a, b, log⟩ = none by rw [applyS2, if_neg (by have := L1.out; omega)])
      go_enter Try.func32, Try.ntmps32
      go_wp2_with fail
      rw [← hw0]
      clear hw0
      go_region
      go_wp2_with fail
      go_region
      go_wp2_with fail
      go_region
      go_wp2_with fail
      go_ret
      exact .inl ⟨G.out, rfl, ((C0.out.drew).drew).drew⟩
    have c1' : decide ((n : Int) < 64) = true := decide_eq_true c1
    have G := hid (show applyS s ⟨2, a, b, log⟩ = some { s with log := s.log ++ log } by rw [applyS2, if_pos (by have := L1.out; omega)])
    have hk1 : k = 1 := by have h1 := HRL.out.2; rw [if_pos rfl] at h1; have h2 := HR.out.1; (try simp only at h2); omega
    subst hk1
    have HFIT := hid (show Fits log by
      have h1 := HRL.out.2
      rw [if_pos rfl] at h1
      exact fits_right h1.2)
    have YU := hid (show ∀ wx, Chg (fun _ => False) w0 wx → wx.heap[q]? = some (.cells (stRow pre post s A n c) t (0, 0)) from fun wx hx => hx.blk Q0.out (fun h => h))
    have u4 : ∀ wx, Chg (fun _ => False) w0 wx → wx.cell? ⟨q, o + 4, none⟩ = some (.slice A n c) := fun wx hx => hx.cell y4 (fun h => h)
    have v0 : ∀ wx, Chg (fun _ => False) w0 wx → wx.cell? ⟨w.heap.size, 0, none⟩ = some (.int .i64 2) := fun wx hx => (cellAt (hx.blk B0.out (fun h => h)) 0).trans rfl
    have v1 : ∀ wx, Chg (fun _ => False) w0 wx → wx.cell? ⟨w.heap.size, 1, none⟩ = some (.int .i64 a) := fun wx hx => (cellAt (hx.blk B0.out (fun h => h)) 1).trans rfl
    have v2 : ∀ wx, Chg (fun _ => False) w0 wx → wx.cell? ⟨w.heap.size, 2, none⟩ = some (.int .i64 b) := fun wx hx => (cellAt (hx.blk B0.out (fun h => h)) 2).trans rfl
    have v3 : ∀ wx, Chg (fun _ => False) w0 wx → wx.cell? ⟨w.heap.size, 3, none⟩ = some (.slice B 1 d) := fun wx hx => (cellAt (hx.blk B0.out (fun h => h)) 3).trans rfl
    go_enter Try.func32, Try.ntmps32
    go_wp2_with fail
    rw [← hw0]
    clear hw0
    go_region
    go_wp2_with fail
    clear y0 y1 y2 y3 y4 x0 x1 x2 x3
    refine wpB_start (fun wx : World => Chg (fun _ => False) w0 wx) (by kernel_rfl) ?_
    have hHeld : (fun wx : World => Chg (fun _ => False) w0 wx) _ := (Chg.refl (fun _ => False) w0).drew.drew
    -- 0: t56 := move t0 : 110
    refine wpB_take (i := 0) (v := ?_) (get_of_drop rfl) (by kernel_rfl) (by kernel_rfl) (by kernel_rfl) (by kernel_rfl) (fun _ _ _ h => h) (Or.inl ⟨by rfl, ?_⟩) hHeld ?_
    rotate_left
    · (intro w hSw; (try dsimp only at hSw); go_simp <;> with_reducible rfl)
    try simp only [Act.put, List.setIfInBounds_toArray, List.set_cons_zero, List.set_cons_succ]
    -- 1: t57 := move t0 : 110
    refine wpB_take (i := 1) (v := ?_) (get_of_drop rfl) (by kernel_rfl) (by kernel_rfl) (by kernel_rfl) (by kernel_rfl) (fun _ _ _ h => h) (Or.inl ⟨by rfl, ?_⟩) hHeld ?_
    rotate_left
    · (intro w hSw; (try dsimp only at hSw); go_simp <;> with_reducible rfl)
    try simp only [Act.put, List.setIfInBounds_toArray, List.set_cons_zero, List.set_cons_succ]
    -- 2: t58 := nilCheck t57 : 0
    refine wpB_take (i := 2) (v := ?_) (get_of_drop rfl) (by kernel_rfl) (by kernel_rfl) (by kernel_rfl) (by kernel_rfl) (fun _ _ _ h => h) (Or.inl ⟨by rfl, ?_⟩) hHeld ?_
    rotate_left
    · (intro w hSw; (try dsimp only at hSw); go_simp <;> with_reducible rfl)
    try simp only [Act.put, List.setIfInBounds_toArray, List.set_cons_zero, List.set_cons_succ]
    -- 3: t59 := fieldAddr 32 t58 4 : 0
    refine wpB_take (i := 3) (v := ?_) (get_of_drop rfl) (by kernel_rfl) (by kernel_rfl) (by kernel_rfl) (by kernel_rfl) (fun _ _ _ h => h) (Or.inl ⟨by rfl, ?_⟩) hHeld ?_
    rotate_left
    · (intro w hSw; (try dsimp only at hSw); go_simp <;> with_reducible rfl)
    try simp only [Act.put, List.setIfInBounds_toArray, List.set_cons_zero, List.set_cons_succ]
    -- 4: t60 := load 30 t59 : 30
    refine wpB_take (i := 4) (v := ?_) (get_of_drop rfl) (by kernel_rfl) (by kernel_rfl) (by kernel_rfl) (by kernel_rfl) (fun _ _ _ h => h) (Or.inl ⟨by rfl, ?_⟩) hHeld ?_
    rotate_left
    · (intro w hSw; (try dsimp only at hSw); go_simp <;> with_reducible rfl)
    try simp only [Act.put, List.setIfInBounds_toArray, List.set_cons_zero, List.set_cons_succ]
    -- 6: t62 := fieldAddr 62 t3 3 : 0
    refine wpB_take (i := 6) (v := ?_) (get_of_drop rfl) (by kernel_rfl) (by kernel_rfl) (by kernel_rfl) (by kernel_rfl) (fun _ _ _ h => h) (Or.inl ⟨by rfl, ?_⟩) hHeld ?_
    rotate_left
    · (intro w hSw; (try dsimp only at hSw); go_simp <;> with_reducible rfl)
    try simp only [Act.put, List.setIfInBounds_toArray, List.set_cons_zero, List.set_cons_succ]
    -- 7: t63 := load 30 t62 : 30
    refine wpB_take (i := 7) (v := ?_) (get_of_drop rfl) (by kernel_rfl) (by kernel_rfl) (by kernel_rfl) (by kernel_rfl) (fun _ _ _ h => h) (Or.inl ⟨by rfl, ?_⟩) hHeld ?_
    rotate_left
    · (intro w hSw; (try dsimp only at hSw); go_simp <;> with_reducible rfl)
    try simp only [Act.put, List.setIfInBounds_toArray, List.set_cons_zero, List.set_cons_succ]
    -- 5: t61 := CALL fn56(t60) : 30
    refine wpB_act (i := 5) (by kernel_rfl) (get_of_drop rfl) (fun K hK => ?_)
    go_simp
    refine (clip_any (A := A) L2.out (by omega)).mono ?_
    rintro e wy ⟨rfl, rfl⟩
    refine hK.out _ _ ?_ (fun hHeld2 => ?_)
    · (first | assumption | (with_reducible exact HZ.out))
    clear hHeld hK K
    have hHeld := hHeld2
    clear hHeld2
    try simp only [Act.put, List.setIfInBounds_toArray, List.set_cons_zero, List.set_cons_succ]
    -- 8: t64 := CALL fn34(t63) : 30
    refine wpB_act (i := 8) (by kernel_rfl) (get_of_drop rfl) (fun K hK => ?_)
    go_simp
    refine (copied_any (xs := log) (HR.out.chg hHeld (fun _ _ h => h)) (by omega) HFIT.out).mono ?_
    rintro e wy ⟨B', d', rfl, hat, hcy⟩
    have HAT := hid hat
    have HZ := hid (hHeld.trans hcy (fun _ h _ => h))
    have HZ8 := hid (show w0.heap.size ≤ wy.heap.size from HZ.out.size)
    clear hat hcy
    refine hK.out _ _ ?_ (fun hHeld2 => ?_)
    · (first | assumption | (with_reducible exact HZ.out))
    clear hHeld hK K
    have hHeld := hHeld2
    clear hHeld2
    try simp only [Act.put, List.setIfInBounds_toArray, List.set_cons_zero, List.set_cons_succ]
    -- 9: t65 := append(t61, t64) types [30, 30] : 30
    refine wpB_act (i := 9) (by kernel_rfl) (get_of_drop rfl) (fun K hK => ?_)
    refine join_step (d := entryK) _ rfl (.tmp 61) (.tmp 64) 30 52 (.agg #[.int .i64 0, .int .i64 0, .int .i64 0, .int .i64 0, .int .i64 0, .int .i64 0, .int .i64 0, .slice none 0 0, .slice none 0 0]) 104 rfl Try.underlying30 infoEntryP rfl (by decide) (by decide) rfl rfl ((at_clip HL.out).chg hHeld (fun _ _ h => h)) HAT.out (by omega) (by omega) ?_
    intro A' c' w5 h1 h2
    have HJ := hid h1
    have HZ := hid (hHeld.trans h2 (fun _ h _ => h))
    have QZ := hid (YU.out _ HZ.out)
    have z4 : w5.cell? ⟨q, o + 4, none⟩ = some (.slice A n c) := u4 _ HZ.out
    have f4 : w5.frozen? ⟨q, o + 4, none⟩ = false := freeAt QZ.out _
    clear h1 h2 u4 v0 v1 v2 v3
    refine hK.out _ _ ?_ (fun hHeld2 => ?_)
    · (first | assumption | (with_reducible exact HZ.out))
    clear hHeld hK K
    have hHeld := hHeld2
    clear hHeld2
    try simp only [Act.put, List.setIfInBounds_toArray, List.set_cons_zero, List.set_cons_succ]
    -- 10: t66 := nilCheck t56 : 0
    refine wpB_take (i := 10) (v := ?_) (get_of_drop rfl) (by kernel_rfl) (by kernel_rfl) (by kernel_rfl) (by kernel_rfl) (fun _ _ _ h => h) (Or.inl ⟨by rfl, ?_⟩) hHeld ?_
    rotate_left
    · (intro w hSw; (try dsimp only at hSw); go_simp <;> with_reducible rfl)
    try simp only [Act.put, List.setIfInBounds_toArray, List.set_cons_zero, List.set_cons_succ]
    -- 11: t67 := fieldAddr 32 t66 4 : 0
    refine wpB_take (i := 11) (v := ?_) (get_of_drop rfl) (by kernel_rfl) (by kernel_rfl) (by kernel_rfl) (by kernel_rfl) (fun _ _ _ h => h) (Or.inl ⟨by rfl, ?_⟩) hHeld ?_
    rotate_left
    · (intro w hSw; (try dsimp only at hSw); go_simp <;> with_reducible rfl)
    try simp only [Act.put, List.setIfInBounds_toArray, List.set_cons_zero, List.set_cons_succ]
    -- 12: t- := store 30 t67 t65 : 0 (BARRIER)
    refine wpB_bar (i := 12) (by kernel_rfl) (get_of_drop rfl) (by kernel_rfl) (fun K hK => ?_)
    go_simp
    refine hK.out _ _ (fun _ : World => True) ?_
    clear hHeld hK K
    have hHeld := trivial
    try simp only [Act.put, List.setIfInBounds_toArray, List.set_cons_zero, List.set_cons_succ]
    refine wpB_done (by kernel_rfl) ?_ _
    clear hHeld z4
    go_wp2_with fail
    go_ret
    have hC := (Chg.refl (fun k => k = q) w5).set (p := ⟨q, o + 4, none⟩) (fun _ => rfl) (.slice A' (n + 1) c')
    have hB := blk_set QZ.out (o + 4) (.slice A' (n + 1) c')
    obtain rfl := HO.out
    rw [st_set4 pre post s _ _ _ _ _ _ (s.log ++ log)] at hB
    have hqs2 := hqs.out
    refine .inr ⟨_, A', n + 1, c', G.out, rfl, hB, (HJ.out.chg hC (fun j hj e => ?_)).mono (fun j hj => ⟨?_, Nat.lt_of_lt_of_le hj.2 hC.size⟩), ((C0.out.mono (fun _ h _ => h.elim)).trans (HZ.out.mono (fun _ h _ => h.elim)) (fun _ h _ => h)).trans hC (fun _ h _ => h)⟩
    · subst e
      have s0 := C0.out.size
      rcases hj.1 with h | h | h
      · exact HNR.out h.1
      · have h2 : w0.heap.size ≤ _ := h.1; omega
      · have h3 := HZ8.out; omega
    · have s0 := C0.out.size
      rcases hj.1 with h | h | h
      · exact .inl h.1
      · exact .inr (by have h2 : w0.heap.size ≤ j := h.1; omega)
      · exact .inr (by have h3 := HZ8.out; omega)
  · by_cases c1 : s.commit ≤ a
    case neg =>
      have c1' : decide (s.commit ≤ a) = false := decide_eq_false c1
      have G := hid (show applyS s ⟨3, a, b, log⟩ = none by rw [applyS3, ← L1.out, if_neg (fun h => c1 h.1)])
      go_enter Try.func32, Try.ntmps32
      go_wp2_with fail
      rw [← hw0]
      clear hw0
      go_region
      go_wp2_with fail
      go_region
      go_wp2_with fail
      go_region
      go_wp2_with fail
      go_ret
      exact .inl ⟨G.out, rfl, ((C0.out.drew).drew).drew⟩
    have c1' : decide (s.commit ≤ a) = true := decide_eq_true c1
    by_cases c2 : a ≤ (n : Int)
    case neg =>
      have c2' : decide (a ≤ (n : Int)) = false := decide_eq_false c2
      have G := hid (show applyS s ⟨3, a, b, log⟩ = none by rw [applyS3, ← L1.out, if_neg (fun h => c2 h.2)])
      go_enter Try.func32, Try.ntmps32
      go_wp2_with fail
      rw [← hw0]
      clear hw0
      go_region
      go_wp2_with fail
      go_region
      go_wp2_with fail
      go_region
      go_wp2_with fail
      go_ret
      exact .inl ⟨G.out, rfl, ((C0.out.drew).drew).drew⟩
    have c2' : decide (a ≤ (n : Int)) = true := decide_eq_true c2
    obtain ⟨m, rfl⟩ : ∃ m : Nat, a = (m : Int) := ⟨a.toNat, by have := HRL.out.1.2.1.1; (try simp only at this); omega⟩
    have G := hid (show applyS s ⟨3, (m : Int), b, log⟩ = some { s with log := s.log.take m } by rw [applyS3, ← L1.out, if_pos ⟨c1, c2⟩]; rfl)
    have hmn : m ≤ n := by omega
    have L3 := L2.out
    obtain ⟨ie, hie, _⟩ := info_parts infoEntryP
    have hcut := cut_to (P := Try.prog) 30 52 .i64 Try.underlying30 hie A n c m (by omega)
    clear hie
    go_enter Try.func32, Try.ntmps32
    go_wp2_with fail
    rw [← hw0]
    clear hw0
    go_region
    go_wp2_with fail
    go_region
    go_wp2_with fail
    go_region
    go_wp2_with fail
    go_ret
    have hC := ((Chg.refl (fun k => k = q) w0).drew.drew.drew.set (p := ⟨q, o + 4, none⟩) (fun _ => rfl) (.slice A m c))
    have hB := (blk_set (Q0.out) (o + 4) (.slice A m c))
    obtain rfl := HO.out
    rw [st_set4 pre post s _ _ _ _ _ _ (s.log.take m)] at hB
    refine .inr ⟨_, A, m, c, G.out, rfl, hB, ((HL.out.to_ hmn).chg hC (fun j hj e => HNR.out (e ▸ hj.1))).mono (fun j hj => ⟨.inl hj.1, Nat.lt_of_lt_of_le hj.2 (Nat.le_trans C0.out.size hC.size)⟩), (C0.out.mono (fun _ h _ => h.elim)).trans hC (fun _ h _ => h)⟩
  · by_cases c1 : s.commit ≤ a
    case neg =>
      have c1' : decide (s.commit ≤ a) = false := decide_eq_false c1
      have G := hid (show applyS s ⟨4, a, b, log⟩ = none by rw [applyS4, ← L1.out, if_neg (fun h => c1 h.1)])
      go_enter Try.func32, Try.ntmps32
      go_wp2_with fail
      rw [← hw0]
      clear hw0
      go_region
      go_wp2_with fail
      go_region
      go_wp2_with fail
      go_region
      go_wp2_with fail
      go_ret
      exact .inl ⟨G.out, rfl, ((C0.out.drew).drew).drew⟩
    have c1' : decide (s.commit ≤ a) = true := decide_eq_true c1
    by_cases c2 : a ≤ (n : Int)
    case neg =>
      have c2' : decide (a ≤ (n : Int)) = false := decide_eq_false c2
      have G := hid (show applyS s ⟨4, a, b, log⟩ = none by rw [applyS4, ← L1.out, if_neg (fun h => c2 h.2)])
      go_enter Try.func32, Try.ntmps32
      go_wp2_with fail
      rw [← hw0]
      clear hw0
      go_region
      go_wp2_with fail
      go_region
      go_wp2_with fail
      go_region
      go_wp2_with fail
      go_ret
      exact .inl ⟨G.out, rfl, ((C0.out.drew).drew).drew⟩
    have c2' : decide (a ≤ (n : Int)) = true := decide_eq_true c2
    have G := hid (show applyS s ⟨4, a, b, log⟩ = some { s with commit := a } by rw [applyS4, ← L1.out, if_pos ⟨c1, c2⟩])
    go_enter Try.func32, Try.ntmps32
    go_wp2_with fail
    rw [← hw0]
    clear hw0
    go_region
    go_wp2_with fail
    go_region
    go_wp2_with fail
    go_region
    go_wp2_with fail
    go_ret
    have hC := ((Chg.refl (fun k => k = q) w0).drew.drew.drew.set (p := ⟨q, o + 2, none⟩) (fun _ => rfl) (.int .i64 a))
    have hB := (blk_set (Q0.out) (o + 2) (.int .i64 a))
    obtain rfl := HO.out
    rw [st_set2] at hB
    refine .inr ⟨_, A, n, c, G.out, rfl, hB, ((HL.out).chg hC (fun j hj e => HNR.out (e ▸ hj.1))).mono (fun j hj => ⟨.inl hj.1, Nat.lt_of_lt_of_le hj.2 (Nat.le_trans C0.out.size hC.size)⟩), (C0.out.mono (fun _ h _ => h.elim)).trans hC (fun _ h _ => h)⟩
  · by_cases c1 : a ≤ 64
    case neg =>
      have c1' : decide (a ≤ 64) = false := decide_eq_false c1
      have G := hid (show applyS s ⟨5, a, b, log⟩ = none by rw [applyS5, if_neg (fun h => c1 h)])
      go_enter Try.func32, Try.ntmps32
      go_wp2_with fail
      rw [← hw0]
      clear hw0
      go_region
      go_wp2_with fail
      go_region
      go_wp2_with fail
      go_region
      go_wp2_with fail
      go_ret
      exact .inl ⟨G.out, rfl, ((C0.out.drew).drew).drew⟩
    have c1' : decide (a ≤ 64) = true := decide_eq_true c1
    have G := hid (show applyS s ⟨5, a, b, log⟩ = some { s with active := a } by rw [applyS5, if_pos c1])
    go_enter Try.func32, Try.ntmps32
    go_wp2_with fail
    rw [← hw0]
    clear hw0
    go_region
    go_wp2_with fail
    go_region
    go_wp2_with fail
    go_region
    go_wp2_with fail
    go_ret
    have hC := ((Chg.refl (fun k => k = q) w0).drew.drew.drew.set (p := ⟨q, o + 3, none⟩) (fun _ => rfl) (.int .i64 a))
    have hB := (blk_set (Q0.out) (o + 3) (.int .i64 a))
    obtain rfl := HO.out
    rw [st_set3] at hB
    refine .inr ⟨_, A, n, c, G.out, rfl, hB, ((HL.out).chg hC (fun j hj e => HNR.out (e ▸ hj.1))).mono (fun j hj => ⟨.inl hj.1, Nat.lt_of_lt_of_le hj.2 (Nat.le_trans C0.out.size hC.size)⟩), (C0.out.mono (fun _ h _ => h.elim)).trans hC (fun _ h _ => h)⟩
end Go.Proofs.Ytfpjickdkkhndaa.Pa


/- The contract of Apply. -/

namespace Go.Proofs.Ytfpjickdkkhndaa.Pa

set_option linter.unusedVariables false

set_option linter.unusedSimpArgs false

open Go.RowKit Go.Proofs.Ytfpjickdkkhndaa.C

attribute [local go_sem] max2_int min2_int max_two min_two
theorem at_nil_ {α : Type} (d : Ty α) (w : World) (S : Nat → Prop) : Ty.At d w S none 0 0 [] := ⟨rfl, Nat.le_refl _, by simp [maxLen], fun _ => rfl, [], .nil _ _ _, Ty.Row.nil _ _ _⟩
/-- What Apply answers. -/
def applyP (s : St) (r : Rec) : St × Int := if stR s && recR r then (match applyS s r with | some t => (t, 0) | none => (st0, 54)) else (st0, 10)
def ApplyTo (s : St) (r : Rec) (R : Nat → Prop) (w : World) (e' : Ending) (w' : World) : Prop :=
  ∃ A' n' c', e' = .returned (.tuple #[.agg #[.int .i64 (applyP s r).1.view, .int .i64 (applyP s r).1.normal, .int .i64 (applyP s r).1.commit, .int .i64 (applyP s r).1.active, .slice A' n' c'], .int .i64 (applyP s r).2]) ∧ Ty.At entryK w' (fun k => w.heap.size ≤ k ∧ k < w'.heap.size) A' n' c' (applyP s r).1.log ∧ Chg (fun _ => False) w w'
set_option maxHeartbeats 4000000 in
set_option maxRecDepth 100000 in
theorem Apply_any {w : World} {R R2 : Nat → Prop} {s : St} {A : Option Addr} {n c : Nat} {r : Rec} {B : Option Addr} {k d : Nat} (hl : Ty.At entryK w R A n c s.log) (hr : Ty.At entryK w R2 B k d r.log) :
    Calls Try.prog 24 #[.agg #[.int .i64 s.view, .int .i64 s.normal, .int .i64 s.commit, .int .i64 s.active, .slice A n c], .agg #[.int .i64 r.kind, .int .i64 r.a, .int .i64 r.b, .slice B k d]] w (ApplyTo s r R w) := by
  obtain ⟨b2, hb2⟩ : ∃ x, x = w.heap.size + 1 := ⟨_, rfl⟩
  obtain ⟨b3, hb3⟩ : ∃ x, x = w.heap.size + 1 + 1 := ⟨_, rfl⟩
  obtain ⟨w0, hw0⟩ : ∃ x, x = (((w.alloc (.cells #[.int .i64 s.view, .int .i64 s.normal, .int .i64 s.commit, .int .i64 s.active, .slice A n c] 32)).alloc (.cells #[.int .i64 r.kind, .int .i64 r.a, .int .i64 r.b, .slice B k d] 62)).alloc (.cells #[.int .i64 0, .int .i64 0, .int .i64 0, .int .i64 0, .slice none 0 0] 32)) := ⟨_, rfl⟩
  have C0 := hid (show Chg (fun _ => False) w w0 by rw [hw0]; exact (((Chg.refl _ w).alloc _).alloc _).alloc _)
  have BS := hid (show w0.heap[w.heap.size]? = some (.cells #[.int .i64 s.view, .int .i64 s.normal, .int .i64 s.commit, .int .i64 s.active, .slice A n c] 32 (0, 0)) by
    rw [hw0]
    refine blk_alloc (blk_alloc ?_ _) _
    have := blk_new w (.cells #[.int .i64 s.view, .int .i64 s.normal, .int .i64 s.commit, .int .i64 s.active, .slice A n c] 32)
    simpa using this)
  have BR := hid (show w0.heap[b2]? = some (.cells #[.int .i64 r.kind, .int .i64 r.a, .int .i64 r.b, .slice B k d] 62 (0, 0)) by
    rw [hw0, hb2]
    refine blk_alloc ?_ _
    have := blk_new (w.alloc (.cells #[.int .i64 s.view, .int .i64 s.normal, .int .i64 s.commit, .int .i64 s.active, .slice A n c] 32)) (.cells #[.int .i64 r.kind, .int .i64 r.a, .int .i64 r.b, .slice B k d] 62)
    simpa using this)
  have BT := hid (show w0.heap[b3]? = some (.cells #[.int .i64 0, .int .i64 0, .int .i64 0, .int .i64 0, .slice none 0 0] 32 (0, 0)) by
    rw [hw0, hb3]
    have := blk_new ((w.alloc (.cells #[.int .i64 s.view, .int .i64 s.normal, .int .i64 s.commit, .int .i64 s.active, .slice A n c] 32)).alloc (.cells #[.int .i64 r.kind, .int .i64 r.a, .int .i64 r.b, .slice B k d] 62)) (.cells #[.int .i64 0, .int .i64 0, .int .i64 0, .int .i64 0, .slice none 0 0] 32)
    simpa using this)
  have ne01 : w.heap.size ≠ b2 := by omega
  have ne10 : b2 ≠ w.heap.size := by omega
  have ne02 : w.heap.size ≠ b3 := by omega
  have ne20 : b3 ≠ w.heap.size := by omega
  have ne12 : b2 ≠ b3 := by omega
  have ne21 : b3 ≠ b2 := by omega
  have Hb2 := hid hb2
  have ltb2 : w.heap.size < b2 := by omega
  have Hb3 := hid hb3
  have ltb3 : w.heap.size < b3 := by omega
  have SZ := hid (show w0.heap.size = w.heap.size + 3 by rw [hw0]; simp)
  have HL := hid (hl.bound.chg C0.out (fun _ _ h => h))
  have HR := hid (hr.bound.chg C0.out (fun _ _ h => h))
  clear hl hr
  go_enter Try.func24, Try.ntmps24
  go_wp2_with fail
  rw [← hb3, ← hb2, ← hw0]
  clear hw0 hb2 hb3
  have S_0 : w0.cell? ⟨w.heap.size, 0, none⟩ = some (.int .i64 s.view) := (cellAt BS.out 0).trans rfl
  have S_1 : w0.cell? ⟨w.heap.size, 1, none⟩ = some (.int .i64 s.normal) := (cellAt BS.out 1).trans rfl
  have S_2 : w0.cell? ⟨w.heap.size, 2, none⟩ = some (.int .i64 s.commit) := (cellAt BS.out 2).trans rfl
  have S_3 : w0.cell? ⟨w.heap.size, 3, none⟩ = some (.int .i64 s.active) := (cellAt BS.out 3).trans rfl
  have S_4 : w0.cell? ⟨w.heap.size, 4, none⟩ = some (.slice A n c) := (cellAt BS.out 4).trans rfl
  have R_0 : w0.cell? ⟨b2, 0, none⟩ = some (.int .i64 r.kind) := (cellAt BR.out 0).trans rfl
  have R_1 : w0.cell? ⟨b2, 1, none⟩ = some (.int .i64 r.a) := (cellAt BR.out 1).trans rfl
  have R_2 : w0.cell? ⟨b2, 2, none⟩ = some (.int .i64 r.b) := (cellAt BR.out 2).trans rfl
  have R_3 : w0.cell? ⟨b2, 3, none⟩ = some (.slice B k d) := (cellAt BR.out 3).trans rfl
  refine (stright_any HL.out).mono ?_
  rintro e w1 ⟨rfl, h1⟩
  have C1 := hid h1
  clear h1
  clear S_0 S_1 S_2 S_3 S_4 R_0 R_1 R_2 R_3
  replace BS := hid ((C1.out).blk BS.out (fun h => h))
  replace BR := hid ((C1.out).blk BR.out (fun h => h))
  replace BT := hid ((C1.out).blk BT.out (fun h => h))
  cases hs : stR s
  · have HS := hid hs
    clear hs
    have G := hid (show applyP s r = (st0, 10) by unfold applyP; rw [HS.out]; rfl)
    have T_0 : w1.cell? ⟨b3, 0, none⟩ = some (.int .i64 0) := (cellAt BT.out 0).trans rfl
    have T_f0 : w1.frozen? ⟨b3, 0, none⟩ = false := freeAt BT.out 0
    have T_1 : w1.cell? ⟨b3, 1, none⟩ = some (.int .i64 0) := (cellAt BT.out 1).trans rfl
    have T_f1 : w1.frozen? ⟨b3, 1, none⟩ = false := freeAt BT.out 1
    have T_2 : w1.cell? ⟨b3, 2, none⟩ = some (.int .i64 0) := (cellAt BT.out 2).trans rfl
    have T_f2 : w1.frozen? ⟨b3, 2, none⟩ = false := freeAt BT.out 2
    have T_3 : w1.cell? ⟨b3, 3, none⟩ = some (.int .i64 0) := (cellAt BT.out 3).trans rfl
    have T_f3 : w1.frozen? ⟨b3, 3, none⟩ = false := freeAt BT.out 3
    have T_4 : w1.cell? ⟨b3, 4, none⟩ = some (.slice none 0 0) := (cellAt BT.out 4).trans rfl
    have T_f4 : w1.frozen? ⟨b3, 4, none⟩ = false := freeAt BT.out 4
    go_wp2_with fail
    clear T_0 T_f0 T_1 T_f1 T_2 T_f2 T_3 T_f3 T_4 T_f4
    obtain ⟨PB, PC⟩ := put_blk [(.int .i64 0 : Value), .int .i64 0, .int .i64 0, .int .i64 0, .slice none 0 0] w1 _ BT.out rfl
    generalize hW : (((((w1.setCell ⟨b3, 0, none⟩ (.int .i64 0)).setCell ⟨b3, 1, none⟩ (.int .i64 0)).setCell ⟨b3, 2, none⟩ (.int .i64 0)).setCell ⟨b3, 3, none⟩ (.int .i64 0)).setCell ⟨b3, 4, none⟩ (.slice none 0 0)) = W
    have BT2 := hid (show W.heap[b3]? = some (.cells #[.int .i64 0, .int .i64 0, .int .i64 0, .int .i64 0, .slice none 0 0] 32 (0, 0)) by rw [← hW]; exact PB)
    have CW := hid (show Chg (fun k => k = b3) w1 W by rw [← hW]; exact PC)
    clear PB PC hW
    have z0 : W.cell? ⟨b3, 0, none⟩ = some (.int .i64 0) := (cellAt BT2.out 0).trans rfl
    have z1 : W.cell? ⟨b3, 1, none⟩ = some (.int .i64 0) := (cellAt BT2.out 1).trans rfl
    have z2 : W.cell? ⟨b3, 2, none⟩ = some (.int .i64 0) := (cellAt BT2.out 2).trans rfl
    have z3 : W.cell? ⟨b3, 3, none⟩ = some (.int .i64 0) := (cellAt BT2.out 3).trans rfl
    have z4 : W.cell? ⟨b3, 4, none⟩ = some (.slice none 0 0) := (cellAt BT2.out 4).trans rfl
    refine bodyPost_ret (v := .tuple #[.agg #[.int .i64 0, .int .i64 0, .int .i64 0, .int .i64 0, .slice none 0 0], .int .i64 10]) (by simp [results, Try.results24, go_sem, z0, z1, z2, z3, z4]) rfl ?_
    refine ⟨none, 0, 0, by rw [G.out]; rfl, by rw [G.out]; exact at_nil_ _ _ _, ((C0.out.trans C1.out (fun _ h _ => h)).trans CW.out (fun j hj hl => by have := Hb2.out; have := Hb3.out; omega))⟩
  have HS := hid hs
  clear hs
  have S_0 : w1.cell? ⟨w.heap.size, 0, none⟩ = some (.int .i64 s.view) := (cellAt BS.out 0).trans rfl
  have S_1 : w1.cell? ⟨w.heap.size, 1, none⟩ = some (.int .i64 s.normal) := (cellAt BS.out 1).trans rfl
  have S_2 : w1.cell? ⟨w.heap.size, 2, none⟩ = some (.int .i64 s.commit) := (cellAt BS.out 2).trans rfl
  have S_3 : w1.cell? ⟨w.heap.size, 3, none⟩ = some (.int .i64 s.active) := (cellAt BS.out 3).trans rfl
  have S_4 : w1.cell? ⟨w.heap.size, 4, none⟩ = some (.slice A n c) := (cellAt BS.out 4).trans rfl
  have R_0 : w1.cell? ⟨b2, 0, none⟩ = some (.int .i64 r.kind) := (cellAt BR.out 0).trans rfl
  have R_1 : w1.cell? ⟨b2, 1, none⟩ = some (.int .i64 r.a) := (cellAt BR.out 1).trans rfl
  have R_2 : w1.cell? ⟨b2, 2, none⟩ = some (.int .i64 r.b) := (cellAt BR.out 2).trans rfl
  have R_3 : w1.cell? ⟨b2, 3, none⟩ = some (.slice B k d) := (cellAt BR.out 3).trans rfl
  go_wp2_with fail
  refine (recright_any (HR.out.chg C1.out (fun _ _ h => h))).mono ?_
  rintro e w2 ⟨rfl, h2⟩
  have C2 := hid (C1.out.trans h2 (fun _ h _ => h))
  clear S_0 S_1 S_2 S_3 S_4 R_0 R_1 R_2 R_3
  replace BS := hid ((h2).blk BS.out (fun h => h))
  replace BR := hid ((h2).blk BR.out (fun h => h))
  replace BT := hid ((h2).blk BT.out (fun h => h))
  clear h2
  cases hr : recR r
  · have HRR := hid hr
    clear hr
    have G := hid (show applyP s r = (st0, 10) by unfold applyP; rw [HS.out, HRR.out]; rfl)
    have T_0 : w2.cell? ⟨b3, 0, none⟩ = some (.int .i64 0) := (cellAt BT.out 0).trans rfl
    have T_f0 : w2.frozen? ⟨b3, 0, none⟩ = false := freeAt BT.out 0
    have T_1 : w2.cell? ⟨b3, 1, none⟩ = some (.int .i64 0) := (cellAt BT.out 1).trans rfl
    have T_f1 : w2.frozen? ⟨b3, 1, none⟩ = false := freeAt BT.out 1
    have T_2 : w2.cell? ⟨b3, 2, none⟩ = some (.int .i64 0) := (cellAt BT.out 2).trans rfl
    have T_f2 : w2.frozen? ⟨b3, 2, none⟩ = false := freeAt BT.out 2
    have T_3 : w2.cell? ⟨b3, 3, none⟩ = some (.int .i64 0) := (cellAt BT.out 3).trans rfl
    have T_f3 : w2.frozen? ⟨b3, 3, none⟩ = false := freeAt BT.out 3
    have T_4 : w2.cell? ⟨b3, 4, none⟩ = some (.slice none 0 0) := (cellAt BT.out 4).trans rfl
    have T_f4 : w2.frozen? ⟨b3, 4, none⟩ = false := freeAt BT.out 4
    go_wp2_with fail
    clear T_0 T_f0 T_1 T_f1 T_2 T_f2 T_3 T_f3 T_4 T_f4
    obtain ⟨PB, PC⟩ := put_blk [(.int .i64 0 : Value), .int .i64 0, .int .i64 0, .int .i64 0, .slice none 0 0] w2 _ BT.out rfl
    generalize hW : (((((w2.setCell ⟨b3, 0, none⟩ (.int .i64 0)).setCell ⟨b3, 1, none⟩ (.int .i64 0)).setCell ⟨b3, 2, none⟩ (.int .i64 0)).setCell ⟨b3, 3, none⟩ (.int .i64 0)).setCell ⟨b3, 4, none⟩ (.slice none 0 0)) = W
    have BT2 := hid (show W.heap[b3]? = some (.cells #[.int .i64 0, .int .i64 0, .int .i64 0, .int .i64 0, .slice none 0 0] 32 (0, 0)) by rw [← hW]; exact PB)
    have CW := hid (show Chg (fun k => k = b3) w2 W by rw [← hW]; exact PC)
    clear PB PC hW
    have z0 : W.cell? ⟨b3, 0, none⟩ = some (.int .i64 0) := (cellAt BT2.out 0).trans rfl
    have z1 : W.cell? ⟨b3, 1, none⟩ = some (.int .i64 0) := (cellAt BT2.out 1).trans rfl
    have z2 : W.cell? ⟨b3, 2, none⟩ = some (.int .i64 0) := (cellAt BT2.out 2).trans rfl
    have z3 : W.cell? ⟨b3, 3, none⟩ = some (.int .i64 0) := (cellAt BT2.out 3).trans rfl
    have z4 : W.cell? ⟨b3, 4, none⟩ = some (.slice none 0 0) := (cellAt BT2.out 4).trans rfl
    refine bodyPost_ret (v := .tuple #[.agg #[.int .i64 0, .int .i64 0, .int .i64 0, .int .i64 0, .slice none 0 0], .int .i64 10]) (by simp [results, Try.results24, go_sem, z0, z1, z2, z3, z4]) rfl ?_
    refine ⟨none, 0, 0, by rw [G.out]; rfl, by rw [G.out]; exact at_nil_ _ _ _, ((C0.out.trans C2.out (fun _ h _ => h)).trans CW.out (fun j hj hl => by have := Hb2.out; have := Hb3.out; omega))⟩
  have HRR := hid hr
  clear hr
  have GP := hid (show applyP s r = (match applyS s r with | some t => (t, 0) | none => (st0, 54)) by unfold applyP; rw [HS.out, HRR.out]; rfl)
  have hn64 : n ≤ 1000000 := by have h1 := (stR_iff.1 HS.out).1; have h2 := HL.out.1; omega
  have S_0 : w2.cell? ⟨w.heap.size, 0, none⟩ = some (.int .i64 s.view) := (cellAt BS.out 0).trans rfl
  have S_1 : w2.cell? ⟨w.heap.size, 1, none⟩ = some (.int .i64 s.normal) := (cellAt BS.out 1).trans rfl
  have S_2 : w2.cell? ⟨w.heap.size, 2, none⟩ = some (.int .i64 s.commit) := (cellAt BS.out 2).trans rfl
  have S_3 : w2.cell? ⟨w.heap.size, 3, none⟩ = some (.int .i64 s.active) := (cellAt BS.out 3).trans rfl
  have S_4 : w2.cell? ⟨w.heap.size, 4, none⟩ = some (.slice A n c) := (cellAt BS.out 4).trans rfl
  go_wp2_with fail
  refine (copied_any (HL.out.chg C2.out (fun _ _ h => h)) hn64 (fits_right (stR_iff.1 HS.out).2)).mono ?_
  rintro e w3 ⟨A3, c3, rfl, hat, h3⟩
  have C3 := hid (C2.out.trans h3 (fun _ h _ => h))
  have H3 := hid hat
  clear S_0 S_1 S_2 S_3 S_4
  replace BS := hid ((h3).blk BS.out (fun h => h))
  replace BR := hid ((h3).blk BR.out (fun h => h))
  replace BT := hid ((h3).blk BT.out (fun h => h))
  clear h3 hat
  have S_0 : w3.cell? ⟨w.heap.size, 0, none⟩ = some (.int .i64 s.view) := (cellAt BS.out 0).trans rfl
  have S_f0 : w3.frozen? ⟨w.heap.size, 0, none⟩ = false := freeAt BS.out 0
  have S_1 : w3.cell? ⟨w.heap.size, 1, none⟩ = some (.int .i64 s.normal) := (cellAt BS.out 1).trans rfl
  have S_f1 : w3.frozen? ⟨w.heap.size, 1, none⟩ = false := freeAt BS.out 1
  have S_2 : w3.cell? ⟨w.heap.size, 2, none⟩ = some (.int .i64 s.commit) := (cellAt BS.out 2).trans rfl
  have S_f2 : w3.frozen? ⟨w.heap.size, 2, none⟩ = false := freeAt BS.out 2
  have S_3 : w3.cell? ⟨w.heap.size, 3, none⟩ = some (.int .i64 s.active) := (cellAt BS.out 3).trans rfl
  have S_f3 : w3.frozen? ⟨w.heap.size, 3, none⟩ = false := freeAt BS.out 3
  have S_4 : w3.cell? ⟨w.heap.size, 4, none⟩ = some (.slice A n c) := (cellAt BS.out 4).trans rfl
  have S_f4 : w3.frozen? ⟨w.heap.size, 4, none⟩ = false := freeAt BS.out 4
  have R_0 : w3.cell? ⟨b2, 0, none⟩ = some (.int .i64 r.kind) := (cellAt BR.out 0).trans rfl
  have R_f0 : w3.frozen? ⟨b2, 0, none⟩ = false := freeAt BR.out 0
  have R_1 : w3.cell? ⟨b2, 1, none⟩ = some (.int .i64 r.a) := (cellAt BR.out 1).trans rfl
  have R_f1 : w3.frozen? ⟨b2, 1, none⟩ = false := freeAt BR.out 1
  have R_2 : w3.cell? ⟨b2, 2, none⟩ = some (.int .i64 r.b) := (cellAt BR.out 2).trans rfl
  have R_f2 : w3.frozen? ⟨b2, 2, none⟩ = false := freeAt BR.out 2
  have R_3 : w3.cell? ⟨b2, 3, none⟩ = some (.slice B k d) := (cellAt BR.out 3).trans rfl
  have R_f3 : w3.frozen? ⟨b2, 3, none⟩ = false := freeAt BR.out 3
  go_wp2_with fail
  obtain ⟨W3, hW3⟩ : ∃ W, W = w3.setCell ⟨w.heap.size, 4, none⟩ (.slice A3 n c3) := ⟨_, rfl⟩
  rw [← hW3]
  have D3 := hid (show Chg (fun k => k = w.heap.size) w3 W3 by rw [hW3]; exact (Chg.refl (fun k => k = w.heap.size) w3).set (fun _ => rfl) _)
  replace BS := hid (show W3.heap[w.heap.size]? = some (.cells (stRow [] [] s A3 n c3) 32 (0, 0)) by rw [hW3]; exact blk_set BS.out 4 _)
  clear S_0 S_f0 S_1 S_f1 S_2 S_f2 S_3 S_f3 S_4 S_f4 R_0 R_f0 R_1 R_f1 R_2 R_f2 R_3 R_f3
  replace BR := hid ((D3.out).blk BR.out (by omega))
  replace BT := hid ((D3.out).blk BT.out (by omega))
  clear hW3
  have z0 := C0.out.size
  have z2 := C2.out.size
  have zs := lt_of_blk BT.out
  have hb3 := Hb3.out
  have zz := SZ.out
  refine (apply_any (o := 0) (pre := []) (post := []) rfl BS.out (H3.out.chg D3.out (fun j hj e => by have := hj.1; omega)) (by rintro ⟨h1, _⟩; omega) ((HR.out.chg C3.out (fun _ _ h => h)).chg D3.out (fun j hj e => by have := hj.2; omega)) HS.out HRR.out).mono ?_
  clear z0 z2 zs hb3 zz
  rintro e w4 (⟨hg, rfl, h4⟩ | ⟨s', A4, n4, c4, hg, rfl, hb, hat, h4⟩)
  · have HG := hid hg
    have CA := hid (show Chg (fun _ => False) w w4 from ((C0.out.trans C3.out (fun _ h _ => h)).trans (S := fun _ => False) D3.out (fun j hj hl => by omega)).trans h4 (fun _ h _ => h))
    replace BT := hid ((h4).blk BT.out (fun h => h))
    clear h4 hg
    have G := hid (show applyP s r = (st0, 54) by rw [GP.out, HG.out])
    have T_0 : w4.cell? ⟨b3, 0, none⟩ = some (.int .i64 0) := (cellAt BT.out 0).trans rfl
    have T_f0 : w4.frozen? ⟨b3, 0, none⟩ = false := freeAt BT.out 0
    have T_1 : w4.cell? ⟨b3, 1, none⟩ = some (.int .i64 0) := (cellAt BT.out 1).trans rfl
    have T_f1 : w4.frozen? ⟨b3, 1, none⟩ = false := freeAt BT.out 1
    have T_2 : w4.cell? ⟨b3, 2, none⟩ = some (.int .i64 0) := (cellAt BT.out 2).trans rfl
    have T_f2 : w4.frozen? ⟨b3, 2, none⟩ = false := freeAt BT.out 2
    have T_3 : w4.cell? ⟨b3, 3, none⟩ = some (.int .i64 0) := (cellAt BT.out 3).trans rfl
    have T_f3 : w4.frozen? ⟨b3, 3, none⟩ = false := freeAt BT.out 3
    have T_4 : w4.cell? ⟨b3, 4, none⟩ = some (.slice none 0 0) := (cellAt BT.out 4).trans rfl
    have T_f4 : w4.frozen? ⟨b3, 4, none⟩ = false := freeAt BT.out 4
    go_wp2_with fail
    clear T_0 T_f0 T_1 T_f1 T_2 T_f2 T_3 T_f3 T_4 T_f4
    obtain ⟨PB, PC⟩ := put_blk [(.int .i64 0 : Value), .int .i64 0, .int .i64 0, .int .i64 0, .slice none 0 0] w4 _ BT.out rfl
    generalize hW : (((((w4.setCell ⟨b3, 0, none⟩ (.int .i64 0)).setCell ⟨b3, 1, none⟩ (.int .i64 0)).setCell ⟨b3, 2, none⟩ (.int .i64 0)).setCell ⟨b3, 3, none⟩ (.int .i64 0)).setCell ⟨b3, 4, none⟩ (.slice none 0 0)) = W
    have BT2 := hid (show W.heap[b3]? = some (.cells #[.int .i64 0, .int .i64 0, .int .i64 0, .int .i64 0, .slice none 0 0] 32 (0, 0)) by rw [← hW]; exact PB)
    have CW := hid (show Chg (fun k => k = b3) w4 W by rw [← hW]; exact PC)
    clear PB PC hW
    have z0 : W.cell? ⟨b3, 0, none⟩ = some (.int .i64 0) := (cellAt BT2.out 0).trans rfl
    have z1 : W.cell? ⟨b3, 1, none⟩ = some (.int .i64 0) := (cellAt BT2.out 1).trans rfl
    have z2 : W.cell? ⟨b3, 2, none⟩ = some (.int .i64 0) := (cellAt BT2.out 2).trans rfl
    have z3 : W.cell? ⟨b3, 3, none⟩ = some (.int .i64 0) := (cellAt BT2.out 3).trans rfl
    have z4 : W.cell? ⟨b3, 4, none⟩ = some (.slice none 0 0) := (cellAt BT2.out 4).trans rfl
    refine bodyPost_ret (v := .tuple #[.agg #[.int .i64 0, .int .i64 0, .int .i64 0, .int .i64 0, .slice none 0 0], .int .i64 54]) (by simp [results, Try.results24, go_sem, z0, z1, z2, z3, z4]) rfl ?_
    refine ⟨none, 0, 0, by rw [G.out]; rfl, by rw [G.out]; exact at_nil_ _ _ _, ((CA.out).trans CW.out (fun j hj hl => by have := Hb2.out; have := Hb3.out; omega))⟩
  · have G := hid (show applyP s r = (s', 0) by rw [GP.out, hg])
    have CA := hid (show Chg (fun _ => False) w w4 from ((C0.out.trans C3.out (fun _ h _ => h)).trans (S := fun _ => False) D3.out (fun j hj hl => by omega)).trans h4 (fun j hj hl => by omega))
    replace BT := hid (h4.blk BT.out (by omega))
    replace BS := hid (show w4.heap[w.heap.size]? = some (.cells #[.int .i64 s'.view, .int .i64 s'.normal, .int .i64 s'.commit, .int .i64 s'.active, .slice A4 n4 c4] 32 (0, 0)) from hb)
    have H4 := hid hat
    have D34 := hid (show w.heap.size ≤ W3.heap.size by have h1 := C0.out.size; have h2 := C3.out.size; have h3 := D3.out.size; omega)
    have D2 := hid (show w.heap.size ≤ w2.heap.size by have h1 := C0.out.size; have h2 := C2.out.size; omega)
    clear h4 hg hb hat
    have S_0 : w4.cell? ⟨w.heap.size, 0, none⟩ = some (.int .i64 s'.view) := (cellAt BS.out 0).trans rfl
    have S_1 : w4.cell? ⟨w.heap.size, 1, none⟩ = some (.int .i64 s'.normal) := (cellAt BS.out 1).trans rfl
    have S_2 : w4.cell? ⟨w.heap.size, 2, none⟩ = some (.int .i64 s'.commit) := (cellAt BS.out 2).trans rfl
    have S_3 : w4.cell? ⟨w.heap.size, 3, none⟩ = some (.int .i64 s'.active) := (cellAt BS.out 3).trans rfl
    have S_4 : w4.cell? ⟨w.heap.size, 4, none⟩ = some (.slice A4 n4 c4) := (cellAt BS.out 4).trans rfl
    have T_0 : w4.cell? ⟨b3, 0, none⟩ = some (.int .i64 0) := (cellAt BT.out 0).trans rfl
    have T_f0 : w4.frozen? ⟨b3, 0, none⟩ = false := freeAt BT.out 0
    have T_1 : w4.cell? ⟨b3, 1, none⟩ = some (.int .i64 0) := (cellAt BT.out 1).trans rfl
    have T_f1 : w4.frozen? ⟨b3, 1, none⟩ = false := freeAt BT.out 1
    have T_2 : w4.cell? ⟨b3, 2, none⟩ = some (.int .i64 0) := (cellAt BT.out 2).trans rfl
    have T_f2 : w4.frozen? ⟨b3, 2, none⟩ = false := freeAt BT.out 2
    have T_3 : w4.cell? ⟨b3, 3, none⟩ = some (.int .i64 0) := (cellAt BT.out 3).trans rfl
    have T_f3 : w4.frozen? ⟨b3, 3, none⟩ = false := freeAt BT.out 3
    have T_4 : w4.cell? ⟨b3, 4, none⟩ = some (.slice none 0 0) := (cellAt BT.out 4).trans rfl
    have T_f4 : w4.frozen? ⟨b3, 4, none⟩ = false := freeAt BT.out 4
    go_wp2_with fail
    clear S_0 S_1 S_2 S_3 S_4 T_0 T_f0 T_1 T_f1 T_2 T_f2 T_3 T_f3 T_4 T_f4
    obtain ⟨PB, PC⟩ := put_blk [(.int .i64 s'.view : Value), .int .i64 s'.normal, .int .i64 s'.commit, .int .i64 s'.active, .slice A4 n4 c4] w4 _ BT.out rfl
    generalize hW : (((((w4.setCell ⟨b3, 0, none⟩ (.int .i64 s'.view)).setCell ⟨b3, 1, none⟩ (.int .i64 s'.normal)).setCell ⟨b3, 2, none⟩ (.int .i64 s'.commit)).setCell ⟨b3, 3, none⟩ (.int .i64 s'.active)).setCell ⟨b3, 4, none⟩ (.slice A4 n4 c4)) = W
    have BT2 := hid (show W.heap[b3]? = some (.cells #[.int .i64 s'.view, .int .i64 s'.normal, .int .i64 s'.commit, .int .i64 s'.active, .slice A4 n4 c4] 32 (0, 0)) by rw [← hW]; exact PB)
    have CW := hid (show Chg (fun k => k = b3) w4 W by rw [← hW]; exact PC)
    clear PB PC hW
    have z0 : W.cell? ⟨b3, 0, none⟩ = some (.int .i64 s'.view) := (cellAt BT2.out 0).trans rfl
    have z1 : W.cell? ⟨b3, 1, none⟩ = some (.int .i64 s'.normal) := (cellAt BT2.out 1).trans rfl
    have z2 : W.cell? ⟨b3, 2, none⟩ = some (.int .i64 s'.commit) := (cellAt BT2.out 2).trans rfl
    have z3 : W.cell? ⟨b3, 3, none⟩ = some (.int .i64 s'.active) := (cellAt BT2.out 3).trans rfl
    have z4 : W.cell? ⟨b3, 4, none⟩ = some (.slice A4 n4 c4) := (cellAt BT2.out 4).trans rfl
    refine bodyPost_ret (v := .tuple #[.agg #[.int .i64 s'.view, .int .i64 s'.normal, .int .i64 s'.commit, .int .i64 s'.active, .slice A4 n4 c4], .int .i64 0]) (by simp [results, Try.results24, go_sem, z0, z1, z2, z3, z4]) rfl ?_
    have HE : Ty.At entryK W (fun k => w.heap.size ≤ k ∧ k < W.heap.size) A4 n4 c4 s'.log := by
      refine (H4.out.chg CW.out (fun j hj e => ?_)).mono (fun j hj => ⟨?_, Nat.lt_of_lt_of_le hj.2 CW.out.size⟩)
      · have h3 := Hb3.out
        have q2 := D2.out
        have zs := SZ.out
        have q3 := C2.out.size
        have q4 := C3.out.size
        have q5 := D3.out.size
        rcases hj.1 with h | h
        · have := h.1; omega
        · omega
      · have h3 := D34.out
        have q2 := D2.out
        rcases hj.1 with h | h
        · have := h.1; omega
        · omega
    exact ⟨A4, n4, c4, by rw [G.out], by rw [G.out]; exact HE, CA.out.trans CW.out (fun j hj hl => by have := Hb2.out; have := Hb3.out; omega)⟩
end Go.Proofs.Ytfpjickdkkhndaa.Pa


/- The contract of records. -/

namespace Go.Proofs.Ytfpjickdkkhndaa.Pa

set_option linter.unusedVariables false

set_option linter.unusedSimpArgs false

open Go.RowKit Go.Proofs.Ytfpjickdkkhndaa.C

attribute [local go_sem] max2_int min2_int max_two min_two

/-- Records that are being listed: they lie in new memory, but not in X. -/
def RecsAt (w0 : World) (X : Nat → Prop) (wx : World) (v : Value) (l : List Rec) : Prop :=
  (∃ A c, v = .slice A l.length c) ∧ Vec recK 62 wx (fun k => w0.heap.size ≤ k ∧ ¬ X k) (fun k => w0.heap.size ≤ k) v l ∧ Chg (fun _ => False) w0 wx
def RecWf (r : Rec) : Prop := (Lit.int .i64 r.kind).wf = true ∧ (Lit.int .i64 r.a).wf = true ∧ (Lit.int .i64 r.b).wf = true
theorem rec_shut {w : World} {S : Nat → Prop} {r : Rec} {A : Option Addr} {n c : Nat} (h : Ty.At entryK w S A n c r.log) (hw : RecWf r) : recK.K w S r [.int .i64 r.kind, .int .i64 r.a, .int .i64 r.b, .slice A n c] :=
  ⟨[_], _, rfl, ⟨rfl, hw.1⟩, [_], _, rfl, ⟨rfl, hw.2.1⟩, [_], _, rfl, ⟨rfl, hw.2.2⟩, A, n, c, rfl, h⟩
theorem rec_wf {k a b : Int} {l : List Entry} (hk : 0 ≤ k ∧ k ≤ 5) (ha : 0 ≤ a ∧ a ≤ 1099511627776) (hb : 0 ≤ b ∧ b ≤ 1099511627776) : RecWf ⟨k, a, b, l⟩ := by
  refine ⟨?_, ?_, ?_⟩ <;> (simp [Lit.wf, IntKind.min, IntKind.max, IntKind.signed, IntKind.bits]; omega)
theorem infoRecP : (Try.prog.info? 62).map (fun i => (i.zero, i.size, i.bytes)) = some (some (.agg #[.int .i64 0, .int .i64 0, .int .i64 0, .slice none 0 0]), 4, 48) := by kernel_rfl
theorem RecsAt.nil {w0 : World} {X : Nat → Prop} : RecsAt w0 X w0 (.slice none 0 0) [] := ⟨⟨none, 0, rfl⟩, Vec.nil _ _ _ _ _, Chg.refl _ _⟩
theorem RecsAt.chg {w0 wx wy : World} {X M : Nat → Prop} {v : Value} {l : List Rec} (h : RecsAt w0 X wx v l) (hc : Chg M wx wy) (hM : ∀ k, M k → k < w0.heap.size ∨ X k ∨ wx.heap.size ≤ k) (hM2 : ∀ k, M k → ¬ k < w0.heap.size) (hX : ∀ k, X k → w0.heap.size ≤ k → v.ownBlock ≠ some k → k < wx.heap.size → ¬ M k) : RecsAt w0 X wy v l :=
  ⟨h.1, h.2.1.chg hc (fun k hk hm => by
    have h1 := h.2.1.inS k hk
    have h2 := h.2.1.lt k hk
    rcases hM k hm with q | q | q
    · omega
    · exact h1.2 q
    · omega) (fun k hk hv hl hm => by
      rcases hM k hm with q | q | q
      · omega
      · exact hX k q hk hv hl hm
      · omega), h.2.2.trans hc (fun k hk hl => hM2 k hk hl)⟩
/-- From one set of what is kept to another one. -/
theorem RecsAt.keep {w0 wx : World} {X Y : Nat → Prop} {v : Value} {l : List Rec} (h : RecsAt w0 X wx v l) (hY : ∀ k, v.ownBlock = some k → ¬ Y k) : RecsAt w0 Y wx v l := by
  obtain ⟨h1, ⟨cells, g1, g2, g3⟩, h3⟩ := h
  exact ⟨h1, ⟨cells, g1, fun k hk => ⟨(g2 k hk).1, hY k hk⟩, g3⟩, h3⟩
section

variable {ops : Array Oper} {rest : List Oper} {o : Oper} {a : Act} {Q : Exit → Act → World → Prop}

/-- append(records, Record{..}) -/
theorem rec_app {w0 w : World} {X : Nat → Prop} (hgd : o.guard = none) (s x : Operand) (ho : o.op = .call { callee := .builtin .append, args := #[s, x], argTypes := #[82, 82] }) {v : Value} {l : List Rec} (hs : a.eval s = v) (h : RecsAt w0 X w v l) (r : Rec) {B : Option Addr} {k d p : Nat}
    (hx : a.eval x = .slice (some ⟨p, 0, none⟩) 1 1) (hp : p = w.heap.size) (hr : Ty.At entryK w (fun j => w0.heap.size ≤ j ∧ v.ownBlock ≠ some j) B k d r.log) (hwf : RecWf r) (hl : l.length ≤ 1000) (hX : ∀ j, X j → j < w.heap.size)
    (K : ∀ v' w', RecsAt w0 X w' v' (l ++ [r]) → Chg (fun j => ¬ X j ∧ w0.heap.size ≤ j) w w' → wpList Try.prog ops Q rest (a.put o.dst v') w') :
    wpList Try.prog ops Q (o :: rest) a (w.alloc (.cells #[.int .i64 r.kind, .int .i64 r.a, .int .i64 r.b, .slice B k d] 62)) := by
  subst hp
  have hc0 := (Chg.refl (fun _ => False) w).alloc (.cells #[.int .i64 r.kind, .int .i64 r.a, .int .i64 r.b, .slice B k d] 62)
  have hv := h.2.1
  refine vec_list (d := recK) _ hgd s x 82 62 (.agg #[.int .i64 0, .int .i64 0, .int .i64 0, .slice none 0 0]) 48 ho Try.underlying82 infoRecP rfl (by decide) (by decide) v hs (hv.chg hc0 (fun _ _ h => h) (fun _ _ _ _ h => h)) (some ⟨w.heap.size, 0, none⟩) 1 1 (ys := [r]) hx (by simp) (by omega) rfl (new_sees w _ _) (Ty.Row.one_ (rec_shut ((hr.bound.chg hc0 (fun _ _ h => h)).mono (fun j hj => ⟨hj.1.1, hj.1.2, Nat.lt_of_lt_of_le hj.2 hc0.size⟩)) hwf)) (by omega) ?_
  intro A' c' w' h1 h2
  have z0 := h.2.2.size
  have z1 := hc0.size
  have e1 : (l ++ [r]).length = l.length + 1 := by simp
  refine K _ w' ⟨⟨A', c', by rw [e1]⟩, ?_, (h.2.2.trans hc0 (fun _ h _ => h)).trans h2 (fun j hj hl => by have := (hv.inS j hj).1; omega)⟩ ((hc0.mono (fun _ h _ => h.elim)).trans h2 (fun j hj _ => ⟨(hv.inS j hj).2, (hv.inS j hj).1⟩))
  exact h1.mono (fun j hj _ => by
    rcases hj with hj | hj
    · exact hj
    · exact ⟨by omega, fun hx => by have := hX j hx; omega⟩) (fun _ h _ => h)
end
theorem one_cut {α : Type} {l : List α} {q : Nat} {x : α} (h : l[q]? = some x) : (l.take (q + 1)).drop q = [x] := by
  have hq : q < l.length := by
    rcases Nat.lt_or_ge q l.length with h' | h'
    · exact h'
    · rw [List.getElem?_eq_none h'] at h; cases h
  have h2 : (l.take q).length = q := by rw [List.length_take]; omega
  rw [List.take_add_one, h, List.drop_append, List.drop_eq_nil_of_le (by omega), h2]
  simp
def Records (a b : St) (w : World) (e' : Ending) (w' : World) : Prop :=
  ∃ A' c', e' = .returned (.slice A' (recordsS a b).length c') ∧ Ty.At recK w' (fun k => w.heap.size ≤ k ∧ k < w'.heap.size) A' (recordsS a b).length c' (recordsS a b) ∧ Chg (fun _ => False) w w'
set_option maxHeartbeats 4000000 in
set_option maxRecDepth 100000 in
theorem records_any {w : World} {R R2 : Nat → Prop} {a b : St} {A : Option Addr} {n c : Nat} {B : Option Addr} {k d : Nat} (hl : Ty.At entryK w R A n c a.log) (hr : Ty.At entryK w R2 B k d b.log) (ha : stR a = true) (hb : stR b = true) :
    Calls Try.prog 57 #[.agg #[.int .i64 a.view, .int .i64 a.normal, .int .i64 a.commit, .int .i64 a.active, .slice A n c], .agg #[.int .i64 b.view, .int .i64 b.normal, .int .i64 b.commit, .int .i64 b.active, .slice B k d]] w (Records a b w) := by
  obtain ⟨b2, hb2⟩ : ∃ x, x = w.heap.size + 1 := ⟨_, rfl⟩
  obtain ⟨w0, hw0⟩ : ∃ x, x = ((w.alloc (.cells #[.int .i64 a.view, .int .i64 a.normal, .int .i64 a.commit, .int .i64 a.active, .slice A n c] 32)).alloc (.cells #[.int .i64 b.view, .int .i64 b.normal, .int .i64 b.commit, .int .i64 b.active, .slice B k d] 32)) := ⟨_, rfl⟩
  have C0 := hid (show Chg (fun _ => False) w w0 by rw [hw0]; exact ((Chg.refl _ w).alloc _).alloc _)
  have BA := hid (show w0.heap[w.heap.size]? = some (.cells #[.int .i64 a.view, .int .i64 a.normal, .int .i64 a.commit, .int .i64 a.active, .slice A n c] 32 (0, 0)) by
    rw [hw0]
    refine blk_alloc ?_ _
    have := blk_new w (.cells #[.int .i64 a.view, .int .i64 a.normal, .int .i64 a.commit, .int .i64 a.active, .slice A n c] 32)
    simpa using this)
  have BB := hid (show w0.heap[b2]? = some (.cells #[.int .i64 b.view, .int .i64 b.normal, .int .i64 b.commit, .int .i64 b.active, .slice B k d] 32 (0, 0)) by
    rw [hw0, hb2]
    have := blk_new (w.alloc (.cells #[.int .i64 a.view, .int .i64 a.normal, .int .i64 a.commit, .int .i64 a.active, .slice A n c] 32)) (.cells #[.int .i64 b.view, .int .i64 b.normal, .int .i64 b.commit, .int .i64 b.active, .slice B k d] 32)
    simpa using this)
  have ne01 : w.heap.size ≠ b2 := by omega
  have ne10 : b2 ≠ w.heap.size := by omega
  have Hb2 := hid hb2
  have ltb2 : w.heap.size < b2 := by omega
  have SZ := hid (show w0.heap.size = w.heap.size + 2 by rw [hw0]; simp)
  have HL := hid (hl.bound.chg C0.out (fun _ _ h => h))
  have HR := hid (hr.bound.chg C0.out (fun _ _ h => h))
  have HA := hid (stR_iff.1 ha).1
  have HB := hid (stR_iff.1 hb)
  have LA := hid hl.1
  have LB := hid hr.1
  clear hl hr ha hb
  go_enter Try.func57, Try.ntmps57
  go_upto_if 13 with fail
  rw [← hb2, ← hw0]
  clear hw0 hb2
  have N1 := hid (Nat.le_refl 1)
  have HV0 := hid (RecsAt.nil (w0 := w0) (X := fun _ => False))
  obtain ⟨lA, hlA⟩ : ∃ l : List Rec, l = (if a.view ≠ b.view then [⟨1, b.view, a.normal, []⟩] else []) := ⟨_, rfl⟩
  have HEA := hid hlA
  have NA := hid (show lA.length ≤ 1 by rw [hlA]; split <;> simp)
  clear hlA
  have QA := hid (HV0.out.2.2.blk BA.out (fun h => h))
  have QB := hid (HV0.out.2.2.blk BB.out (fun h => h))
  have A_0 : w0.cell? ⟨w.heap.size, 0, none⟩ = some (.int .i64 a.view) := (cellAt QA.out 0).trans rfl
  have A_1 : w0.cell? ⟨w.heap.size, 1, none⟩ = some (.int .i64 a.normal) := (cellAt QA.out 1).trans rfl
  have A_2 : w0.cell? ⟨w.heap.size, 2, none⟩ = some (.int .i64 a.commit) := (cellAt QA.out 2).trans rfl
  have A_3 : w0.cell? ⟨w.heap.size, 3, none⟩ = some (.int .i64 a.active) := (cellAt QA.out 3).trans rfl
  have A_4 : w0.cell? ⟨w.heap.size, 4, none⟩ = some (.slice A n c) := (cellAt QA.out 4).trans rfl
  have B_0 : w0.cell? ⟨b2, 0, none⟩ = some (.int .i64 b.view) := (cellAt QB.out 0).trans rfl
  have B_1 : w0.cell? ⟨b2, 1, none⟩ = some (.int .i64 b.normal) := (cellAt QB.out 1).trans rfl
  have B_2 : w0.cell? ⟨b2, 2, none⟩ = some (.int .i64 b.commit) := (cellAt QB.out 2).trans rfl
  have B_3 : w0.cell? ⟨b2, 3, none⟩ = some (.int .i64 b.active) := (cellAt QB.out 3).trans rfl
  have B_4 : w0.cell? ⟨b2, 4, none⟩ = some (.slice B k d) := (cellAt QB.out 4).trans rfl
  clear A_0 A_1 A_2 A_3 A_4 B_0 B_1 B_2 B_3 B_4
  go_cut [5] (fun v1 wx => RecsAt w0 (fun _ => False) wx v1 (([] : List Rec) ++ lA))
  case first =>
    by_cases e : a.view ≠ b.view
    case neg =>
      have e' : (a.view != b.view) = false := by simp at e ⊢; omega
      have G := hid (show (([] : List Rec) ++ lA) = ([] : List Rec) by rw [HEA.out, if_neg e, List.append_nil])
      clear e
      go_wp2_with fail
      go_meet
      rw [G.out]
      exact HV0.out
    have e' : (a.view != b.view) = true := by simp at e ⊢; omega
    have G := hid (show (([] : List Rec) ++ lA) = ([] : List Rec) ++ [⟨1, b.view, a.normal, []⟩] by rw [HEA.out, if_pos e])
    clear e
    have WF := hid (rec_wf (k := 1) (a := b.view) (b := a.normal) (l := []) (by omega) (by have h1 := HA.out; have h2 := HB.out.1; have h3 := LA.out; have h4 := LB.out; omega) (by have h1 := HA.out; have h2 := HB.out.1; omega))
    have A_0 : w0.cell? ⟨w.heap.size, 0, none⟩ = some (.int .i64 a.view) := (cellAt QA.out 0).trans rfl
    have A_1 : w0.cell? ⟨w.heap.size, 1, none⟩ = some (.int .i64 a.normal) := (cellAt QA.out 1).trans rfl
    have A_2 : w0.cell? ⟨w.heap.size, 2, none⟩ = some (.int .i64 a.commit) := (cellAt QA.out 2).trans rfl
    have A_3 : w0.cell? ⟨w.heap.size, 3, none⟩ = some (.int .i64 a.active) := (cellAt QA.out 3).trans rfl
    have A_4 : w0.cell? ⟨w.heap.size, 4, none⟩ = some (.slice A n c) := (cellAt QA.out 4).trans rfl
    have B_0 : w0.cell? ⟨b2, 0, none⟩ = some (.int .i64 b.view) := (cellAt QB.out 0).trans rfl
    have B_1 : w0.cell? ⟨b2, 1, none⟩ = some (.int .i64 b.normal) := (cellAt QB.out 1).trans rfl
    have B_2 : w0.cell? ⟨b2, 2, none⟩ = some (.int .i64 b.commit) := (cellAt QB.out 2).trans rfl
    have B_3 : w0.cell? ⟨b2, 3, none⟩ = some (.int .i64 b.active) := (cellAt QB.out 3).trans rfl
    have B_4 : w0.cell? ⟨b2, 4, none⟩ = some (.slice B k d) := (cellAt QB.out 4).trans rfl
    go_wp2_with (first | ((with_reducible refine at_dst (N := 21) rfl ?_); refine rec_app (w0 := w0) (X := fun _ => False) rfl (.tmp 14) (.tmp 20) rfl rfl HV0.out ⟨1, b.view, a.normal, []⟩ rfl rfl (at_nil_ _ _ _) WF.out (by simp only [List.length_append, List.length_nil]; have h1 := N1.out; omega) (fun _ h => h.elim) ?_; rw [← G.out]; intro v' w' h1 h2; have HV1 := hid h1; clear h1 h2))
    go_meet
    exact HV1.out
  case rest =>
  revert u5 wc
  intro wA v1 hcut
  have HVA := hid hcut
  clear hcut
  have QA := hid (HVA.out.2.2.blk BA.out (fun h => h))
  have QB := hid (HVA.out.2.2.blk BB.out (fun h => h))
  have HLA := hid (HL.out.chg HVA.out.2.2 (fun _ _ h => h))
  have HLB := hid (HR.out.chg HVA.out.2.2 (fun _ _ h => h))
  have hn64 : (n : Int) ≤ 64 := by have h1 := HA.out; have h3 := LA.out; omega
  have hk64 : (k : Int) ≤ 64 := by have h1 := HB.out.1; have h4 := LB.out; omega
  obtain ⟨cm, hcm⟩ : ∃ x, x = common a.log b.log := ⟨_, rfl⟩
  have HCM := hid hcm
  have HCL := hid (common_le a.log b.log)
  rw [← hcm] at HCL
  clear hcm
  have HST := hid (common_step a.log b.log)
  go_upto_block 0 with fail
  go_cut [6] (fun s6 wx => s6 = .int .i64 (cm : Int) ∧ Chg (fun _ => False) wA wx)
  case first =>
    go_wp2_with fail
    go_loopw [6] (fun i wr => ∃ q : Nat, q ≤ cm ∧ i = .int .i64 q ∧ Chg (fun _ => False) wA wr) (fun i _ => cm + 1 - (intOf i).toNat)
    case atStart => exact ⟨0, Nat.zero_le _, rfl, Chg.refl _ _⟩
    case round =>
      obtain ⟨q, hq, rfl, hC⟩ := hrel
      have HC := hid hC
      have PA := hid (hC.blk QA.out (fun h => h))
      have PB := hid (hC.blk QB.out (fun h => h))
      clear hC
      have hq1 := HCL.out
      have l1 := LA.out
      have l2 := LB.out
      have hqn : q ≤ n := by omega
      have hqk : q ≤ k := by omega
      clear hq1 l1 l2
      by_cases hlt : q < n ∧ q < k
      case neg =>
        have hm : decide ((q : Int) < mn (n : Int) (k : Int)) = false := by rw [mn_eq]; simp; omega
        have HQ := hid (show q = cm by have h1 := HCL.out; have h2 := LA.out; have h3 := LB.out; omega)
        clear hlt
        have A_0 : wr.cell? ⟨w.heap.size, 0, none⟩ = some (.int .i64 a.view) := (cellAt PA.out 0).trans rfl
        have A_1 : wr.cell? ⟨w.heap.size, 1, none⟩ = some (.int .i64 a.normal) := (cellAt PA.out 1).trans rfl
        have A_2 : wr.cell? ⟨w.heap.size, 2, none⟩ = some (.int .i64 a.commit) := (cellAt PA.out 2).trans rfl
        have A_3 : wr.cell? ⟨w.heap.size, 3, none⟩ = some (.int .i64 a.active) := (cellAt PA.out 3).trans rfl
        have A_4 : wr.cell? ⟨w.heap.size, 4, none⟩ = some (.slice A n c) := (cellAt PA.out 4).trans rfl
        have B_0 : wr.cell? ⟨b2, 0, none⟩ = some (.int .i64 b.view) := (cellAt PB.out 0).trans rfl
        have B_1 : wr.cell? ⟨b2, 1, none⟩ = some (.int .i64 b.normal) := (cellAt PB.out 1).trans rfl
        have B_2 : wr.cell? ⟨b2, 2, none⟩ = some (.int .i64 b.commit) := (cellAt PB.out 2).trans rfl
        have B_3 : wr.cell? ⟨b2, 3, none⟩ = some (.int .i64 b.active) := (cellAt PB.out 3).trans rfl
        have B_4 : wr.cell? ⟨b2, 4, none⟩ = some (.slice B k d) := (cellAt PB.out 4).trans rfl
        go_wp2_with fail
        go_region
        go_wp2_with fail
        go_meet
        exact ⟨by rw [HQ.out], HC.out.drew⟩
      obtain ⟨hl1, hl2⟩ := hlt
      have hm : decide ((q : Int) < mn (n : Int) (k : Int)) = true := by rw [mn_eq]; simp; omega
      obtain ⟨x, hx⟩ : ∃ x, a.log[q]? = some x := ⟨_, List.getElem?_eq_getElem (by have := LA.out; omega)⟩
      obtain ⟨y, hy⟩ : ∃ y, b.log[q]? = some y := ⟨_, List.getElem?_eq_getElem (by have := LB.out; omega)⟩
      have hx1 : (a.log.take (q + 1)).drop q = [x] := one_cut hx
      have hy1 : (b.log.take (q + 1)).drop q = [y] := one_cut hy
      have hstep := HST.out q (by rw [← HCM.out]; exact hq)
      rw [hx, hy, ← HCM.out] at hstep
      have hdec : decide ([x] = [y]) = decide (q < cm) := by
        by_cases e : q < cm
        · obtain ⟨z, h1, h2⟩ := hstep.1 e
          injection h1 with h1
          injection h2 with h2
          rw [decide_eq_true e, decide_eq_true (by rw [h1, h2])]
        · rw [decide_eq_false e, decide_eq_false (fun h => e (hstep.2 ⟨x, rfl, by injection h with h; rw [h]⟩))]
      obtain ⟨bb, hbb⟩ : ∃ x, x = decide (q < cm) := ⟨_, rfl⟩
      rw [← hbb] at hdec
      have HBB := hid hbb
      have HDEC := hid hdec
      clear hbb
      have w1 : IntKind.i64.wrap ((q : Int) + 1) = (q : Int) + 1 := IntWalk.i64_in _ (by omega)
      obtain ⟨A1, c1, cutA, atA⟩ := Ty.At.mid_ (P := Try.prog) (d := entryK) Try.underlying30 infoEntryP A n c q (q + 1) 1 (q : Int) ((q : Int) + 1) rfl (by omega) (by omega) (by omega) (HL.out.2.1) (by omega)
      obtain ⟨B1, d1, cutB, atB⟩ := Ty.At.mid_ (P := Try.prog) (d := entryK) Try.underlying30 infoEntryP B k d q (q + 1) 1 (q : Int) ((q : Int) + 1) rfl (by omega) (by omega) (by omega) (HR.out.2.1) (by omega)
      have ATA := hid (fun w S => atA w S a.log)
      have ATB := hid (fun w S => atB w S b.log)
      rw [hx1] at ATA
      rw [hy1] at ATB
      clear hx hy hx1 hy1 hstep hdec atA atB
      have UA_4 : ∀ wx, Chg (fun _ => False) wr wx → wx.cell? ⟨w.heap.size, 4, none⟩ = some (.slice A n c) := fun wx hx => (cellAt (hx.blk PA.out (fun h => h)) 4).trans rfl
      have UB_4 : ∀ wx, Chg (fun _ => False) wr wx → wx.cell? ⟨b2, 4, none⟩ = some (.slice B k d) := fun wx hx => (cellAt (hx.blk PB.out (fun h => h)) 4).trans rfl
      go_wp2_with fail
      refine wpB_start (fun wx : World => Chg (fun _ => False) wr wx) (by kernel_rfl) ?_
      have hHeld : (fun wx : World => Chg (fun _ => False) wr wx) _ := (by first | assumption | exact Chg.drew (Chg.refl _ _) | (show _ ∧ _; refine ⟨?_, ?_⟩ <;> assumption) | (first | assumption | (with_reducible exact HZ.out)))
      -- 0: t22 := move t6 : 3
      refine wpB_take (i := 0) (v := ?_) (get_of_drop rfl) (by kernel_rfl) (by kernel_rfl) (by kernel_rfl) (by kernel_rfl) (fun _ _ _ h => h) (Or.inl ⟨by rfl, ?_⟩) hHeld ?_
      rotate_left
      · (intro w hSw; (try dsimp only at hSw); go_simp <;> with_reducible rfl)
      try simp only [Act.put, List.setIfInBounds_toArray, List.set_cons_zero, List.set_cons_succ]
      -- 1: t23 := fieldAddr 32 t2 4 : 0
      refine wpB_take (i := 1) (v := ?_) (get_of_drop rfl) (by kernel_rfl) (by kernel_rfl) (by kernel_rfl) (by kernel_rfl) (fun _ _ _ h => h) (Or.inl ⟨by rfl, ?_⟩) hHeld ?_
      rotate_left
      · (intro w hSw; (try dsimp only at hSw); go_simp <;> with_reducible rfl)
      try simp only [Act.put, List.setIfInBounds_toArray, List.set_cons_zero, List.set_cons_succ]
      -- 2: t24 := load 30 t23 : 30
      refine wpB_take (i := 2) (v := ?_) (get_of_drop rfl) (by kernel_rfl) (by kernel_rfl) (by kernel_rfl) (by kernel_rfl) (fun _ _ _ h => h) (Or.inl ⟨by rfl, ?_⟩) hHeld ?_
      rotate_left
      · (intro w hSw; (try dsimp only at hSw); go_simp <;> with_reducible rfl)
      try simp only [Act.put, List.setIfInBounds_toArray, List.set_cons_zero, List.set_cons_succ]
      -- 3: t25 := len(t24) types [30] : 3
      refine wpB_take (i := 3) (v := ?_) (get_of_drop rfl) (by kernel_rfl) (by kernel_rfl) (by kernel_rfl) (by kernel_rfl) (fun _ _ _ h => h) (Or.inl ⟨by rfl, ?_⟩) hHeld ?_
      rotate_left
      · (intro w hSw; (try dsimp only at hSw); go_simp <;> with_reducible rfl)
      try simp only [Act.put, List.setIfInBounds_toArray, List.set_cons_zero, List.set_cons_succ]
      -- 4: t26 := fieldAddr 32 t3 4 : 0
      refine wpB_take (i := 4) (v := ?_) (get_of_drop rfl) (by kernel_rfl) (by kernel_rfl) (by kernel_rfl) (by kernel_rfl) (fun _ _ _ h => h) (Or.inl ⟨by rfl, ?_⟩) hHeld ?_
      rotate_left
      · (intro w hSw; (try dsimp only at hSw); go_simp <;> with_reducible rfl)
      try simp only [Act.put, List.setIfInBounds_toArray, List.set_cons_zero, List.set_cons_succ]
      -- 5: t27 := load 30 t26 : 30
      refine wpB_take (i := 5) (v := ?_) (get_of_drop rfl) (by kernel_rfl) (by kernel_rfl) (by kernel_rfl) (by kernel_rfl) (fun _ _ _ h => h) (Or.inl ⟨by rfl, ?_⟩) hHeld ?_
      rotate_left
      · (intro w hSw; (try dsimp only at hSw); go_simp <;> with_reducible rfl)
      try simp only [Act.put, List.setIfInBounds_toArray, List.set_cons_zero, List.set_cons_succ]
      -- 6: t28 := len(t27) types [30] : 3
      refine wpB_take (i := 6) (v := ?_) (get_of_drop rfl) (by kernel_rfl) (by kernel_rfl) (by kernel_rfl) (by kernel_rfl) (fun _ _ _ h => h) (Or.inl ⟨by rfl, ?_⟩) hHeld ?_
      rotate_left
      · (intro w hSw; (try dsimp only at hSw); go_simp <;> with_reducible rfl)
      try simp only [Act.put, List.setIfInBounds_toArray, List.set_cons_zero, List.set_cons_succ]
      -- 7: t29 := min(t25, t28) types [3, 3] : 3
      refine wpB_take (i := 7) (v := ?_) (get_of_drop rfl) (by kernel_rfl) (by kernel_rfl) (by kernel_rfl) (by kernel_rfl) (fun _ _ _ h => h) (Or.inl ⟨by rfl, ?_⟩) hHeld ?_
      rotate_left
      · (intro w hSw; (try dsimp only at hSw); go_simp <;> with_reducible rfl)
      try simp only [Act.put, List.setIfInBounds_toArray, List.set_cons_zero, List.set_cons_succ]
      -- 8: t30 := binOp BinOp.lss 3 t22 t29 3 : 4
      refine wpB_take (i := 8) (v := ?_) (get_of_drop rfl) (by kernel_rfl) (by kernel_rfl) (by kernel_rfl) (by kernel_rfl) (fun _ _ _ h => h) (Or.inl ⟨by rfl, ?_⟩) hHeld ?_
      rotate_left
      · (intro w hSw; (try dsimp only at hSw); go_simp <;> with_reducible rfl)
      try simp only [Act.put, List.setIfInBounds_toArray, List.set_cons_zero, List.set_cons_succ]
      -- 9: t31 := move t30 : 4
      refine wpB_take (i := 9) (v := ?_) (get_of_drop rfl) (by kernel_rfl) (by kernel_rfl) (by kernel_rfl) (by kernel_rfl) (fun _ _ _ h => h) (Or.inl ⟨by rfl, ?_⟩) hHeld ?_
      rotate_left
      · (intro w hSw; (try dsimp only at hSw); go_simp <;> with_reducible rfl)
      try simp only [Act.put, List.setIfInBounds_toArray, List.set_cons_zero, List.set_cons_succ]
      -- 10: t32 := fieldAddr 32 t2 4 : 0   [if ⟨9, true⟩]
      refine wpB_take (i := 10) (v := ?_) (get_of_drop rfl) (by kernel_rfl) (by kernel_rfl) (by kernel_rfl) (by kernel_rfl) (fun _ _ _ h => h) (Or.inl ⟨by rfl, ?_⟩) hHeld ?_
      rotate_left
      · (intro w hSw; (try dsimp only at hSw); go_simp <;> with_reducible rfl)
      try simp only [Act.put, List.setIfInBounds_toArray, List.set_cons_zero, List.set_cons_succ]
      -- 11: t33 := load 30 t32 : 30   [if ⟨9, true⟩]
      refine wpB_take (i := 11) (v := ?_) (get_of_drop rfl) (by kernel_rfl) (by kernel_rfl) (by kernel_rfl) (by kernel_rfl) (fun _ _ _ h => h) (Or.inl ⟨by rfl, ?_⟩) hHeld ?_
      rotate_left
      · (intro w hSw; (try dsimp only at hSw); go_simp <;> with_reducible rfl)
      try simp only [Act.put, List.setIfInBounds_toArray, List.set_cons_zero, List.set_cons_succ]
      -- 12: t34 := move t6 : 3   [if ⟨9, true⟩]
      refine wpB_take (i := 12) (v := ?_) (get_of_drop rfl) (by kernel_rfl) (by kernel_rfl) (by kernel_rfl) (by kernel_rfl) (fun _ _ _ h => h) (Or.inl ⟨by rfl, ?_⟩) hHeld ?_
      rotate_left
      · (intro w hSw; (try dsimp only at hSw); go_simp <;> with_reducible rfl)
      try simp only [Act.put, List.setIfInBounds_toArray, List.set_cons_zero, List.set_cons_succ]
      -- 13: t35 := move t6 : 3   [if ⟨9, true⟩]
      refine wpB_take (i := 13) (v := ?_) (get_of_drop rfl) (by kernel_rfl) (by kernel_rfl) (by kernel_rfl) (by kernel_rfl) (fun _ _ _ h => h) (Or.inl ⟨by rfl, ?_⟩) hHeld ?_
      rotate_left
      · (intro w hSw; (try dsimp only at hSw); go_simp <;> with_reducible rfl)
      try simp only [Act.put, List.setIfInBounds_toArray, List.set_cons_zero, List.set_cons_succ]
      -- 14: t36 := binOp BinOp.add 3 t35 #i64:1 3 : 3   [if ⟨9, true⟩]
      refine wpB_take (i := 14) (v := ?_) (get_of_drop rfl) (by kernel_rfl) (by kernel_rfl) (by kernel_rfl) (by kernel_rfl) (fun _ _ _ h => h) (Or.inl ⟨by rfl, ?_⟩) hHeld ?_
      rotate_left
      · (intro w hSw; (try dsimp only at hSw); go_simp <;> with_reducible rfl)
      try simp only [Act.put, List.setIfInBounds_toArray, List.set_cons_zero, List.set_cons_succ]
      -- 15: t37 := slice 30 t33 some t34 some t36 none : 30   [if ⟨9, true⟩]
      refine wpB_take (i := 15) (v := ?_) (get_of_drop rfl) (by kernel_rfl) (by kernel_rfl) (by kernel_rfl) (by kernel_rfl) (fun _ _ _ h => h) (Or.inl ⟨by rfl, ?_⟩) hHeld ?_
      rotate_left
      · (intro w hSw; (try dsimp only at hSw); go_simp <;> with_reducible rfl)
      try simp only [Act.put, List.setIfInBounds_toArray, List.set_cons_zero, List.set_cons_succ]
      -- 16: t38 := fieldAddr 32 t3 4 : 0   [if ⟨9, true⟩]
      refine wpB_take (i := 16) (v := ?_) (get_of_drop rfl) (by kernel_rfl) (by kernel_rfl) (by kernel_rfl) (by kernel_rfl) (fun _ _ _ h => h) (Or.inl ⟨by rfl, ?_⟩) hHeld ?_
      rotate_left
      · (intro w hSw; (try dsimp only at hSw); go_simp <;> with_reducible rfl)
      try simp only [Act.put, List.setIfInBounds_toArray, List.set_cons_zero, List.set_cons_succ]
      -- 17: t39 := load 30 t38 : 30   [if ⟨9, true⟩]
      refine wpB_take (i := 17) (v := ?_) (get_of_drop rfl) (by kernel_rfl) (by kernel_rfl) (by kernel_rfl) (by kernel_rfl) (fun _ _ _ h => h) (Or.inl ⟨by rfl, ?_⟩) hHeld ?_
      rotate_left
      · (intro w hSw; (try dsimp only at hSw); go_simp <;> with_reducible rfl)
      try simp only [Act.put, List.setIfInBounds_toArray, List.set_cons_zero, List.set_cons_succ]
      -- 18: t40 := move t6 : 3   [if ⟨9, true⟩]
      refine wpB_take (i := 18) (v := ?_) (get_of_drop rfl) (by kernel_rfl) (by kernel_rfl) (by kernel_rfl) (by kernel_rfl) (fun _ _ _ h => h) (Or.inl ⟨by rfl, ?_⟩) hHeld ?_
      rotate_left
      · (intro w hSw; (try dsimp only at hSw); go_simp <;> with_reducible rfl)
      try simp only [Act.put, List.setIfInBounds_toArray, List.set_cons_zero, List.set_cons_succ]
      -- 19: t41 := move t6 : 3   [if ⟨9, true⟩]
      refine wpB_take (i := 19) (v := ?_) (get_of_drop rfl) (by kernel_rfl) (by kernel_rfl) (by kernel_rfl) (by kernel_rfl) (fun _ _ _ h => h) (Or.inl ⟨by rfl, ?_⟩) hHeld ?_
      rotate_left
      · (intro w hSw; (try dsimp only at hSw); go_simp <;> with_reducible rfl)
      try simp only [Act.put, List.setIfInBounds_toArray, List.set_cons_zero, List.set_cons_succ]
      -- 20: t42 := binOp BinOp.add 3 t41 #i64:1 3 : 3   [if ⟨9, true⟩]
      refine wpB_take (i := 20) (v := ?_) (get_of_drop rfl) (by kernel_rfl) (by kernel_rfl) (by kernel_rfl) (by kernel_rfl) (fun _ _ _ h => h) (Or.inl ⟨by rfl, ?_⟩) hHeld ?_
      rotate_left
      · (intro w hSw; (try dsimp only at hSw); go_simp <;> with_reducible rfl)
      try simp only [Act.put, List.setIfInBounds_toArray, List.set_cons_zero, List.set_cons_succ]
      -- 21: t43 := slice 30 t39 some t40 some t42 none : 30   [if ⟨9, true⟩]
      refine wpB_take (i := 21) (v := ?_) (get_of_drop rfl) (by kernel_rfl) (by kernel_rfl) (by kernel_rfl) (by kernel_rfl) (fun _ _ _ h => h) (Or.inl ⟨by rfl, ?_⟩) hHeld ?_
      rotate_left
      · (intro w hSw; (try dsimp only at hSw); go_simp <;> with_reducible rfl)
      try simp only [Act.put, List.setIfInBounds_toArray, List.set_cons_zero, List.set_cons_succ]
      -- 22: t44 := CALL fn78(t37, t43) : 4   [if ⟨9, true⟩]
      refine wpB_act (i := 22) (by kernel_rfl) (get_of_drop rfl) (fun K hK => ?_)
      go_simp
      refine (Same_any (ATA.out _ _ ((HLA.out.chg HC.out (fun _ _ h => h)).chg hHeld (fun _ _ h => h))) (ATB.out _ _ ((HLB.out.chg HC.out (fun _ _ h => h)).chg hHeld (fun _ _ h => h)))).mono ?_
      rintro e wy ⟨rfl, hy⟩
      rw [HDEC.out]
      have HZ := hid (hHeld.trans hy (fun _ h _ => h))
      clear hy
      refine hK.out _ _ ?_ (fun hHeld2 => ?_)
      · (first | assumption | (with_reducible exact HZ.out))
      clear hHeld hK K
      have hHeld := hHeld2
      clear hHeld2
      try simp only [Act.put, List.setIfInBounds_toArray, List.set_cons_zero, List.set_cons_succ]
      -- 23: t45 := pick t31 t44 #false : 4
      refine wpB_take (i := 23) (v := ?_) (get_of_drop rfl) (by kernel_rfl) (by kernel_rfl) (by kernel_rfl) (by kernel_rfl) (fun _ _ _ h => h) (Or.inl ⟨by rfl, ?_⟩) hHeld ?_
      rotate_left
      · (intro w hSw; (try dsimp only at hSw); go_simp <;> with_reducible rfl)
      try simp only [Act.put, List.setIfInBounds_toArray, List.set_cons_zero, List.set_cons_succ]
      refine wpB_done (by kernel_rfl) ?_ _
      clear hHeld cutA cutB UA_4 UB_4 hm
      cases bb
      · have HQ := hid (show q = cm by have h1 := of_decide_eq_false HBB.out.symm; omega)
        go_wp2_with fail
        go_meet
        exact ⟨by rw [HQ.out], HC.out.trans HZ.out (fun _ h _ => h)⟩
      have e : q < cm := of_decide_eq_true HBB.out.symm
      go_wp2_with fail
      go_roundw
      case measure => simp [intOf]; omega
      case rel => first | exact ⟨q + 1, e, by go_num, HC.out.trans HZ.out (fun _ h _ => h)⟩ | ((repeat apply Exists.intro); exact ⟨⟨q + 1, e, by go_num, HC.out.trans HZ.out (fun _ h _ => h)⟩, rfl⟩)
  case rest =>
  obtain ⟨rfl, hC⟩ := hcut
  revert wc
  intro wB hC
  have HVB := hid (HVA.out.chg hC (fun _ h => h.elim) (fun _ h => h.elim) (fun _ h => h.elim))
  have CAB := hid hC
  clear hC
  clear HLA HLB
  obtain ⟨lB, hlB⟩ : ∃ l : List Rec, l = (if cm < n then [⟨3, (cm : Int), 0, []⟩] else []) := ⟨_, rfl⟩
  have HEB := hid hlB
  have NB := hid (show lB.length ≤ 1 by rw [hlB]; split <;> simp)
  clear hlB
  have QA := hid (HVB.out.2.2.blk BA.out (fun h => h))
  have QB := hid (HVB.out.2.2.blk BB.out (fun h => h))
  have A_0 : wB.cell? ⟨w.heap.size, 0, none⟩ = some (.int .i64 a.view) := (cellAt QA.out 0).trans rfl
  have A_1 : wB.cell? ⟨w.heap.size, 1, none⟩ = some (.int .i64 a.normal) := (cellAt QA.out 1).trans rfl
  have A_2 : wB.cell? ⟨w.heap.size, 2, none⟩ = some (.int .i64 a.commit) := (cellAt QA.out 2).trans rfl
  have A_3 : wB.cell? ⟨w.heap.size, 3, none⟩ = some (.int .i64 a.active) := (cellAt QA.out 3).trans rfl
  have A_4 : wB.cell? ⟨w.heap.size, 4, none⟩ = some (.slice A n c) := (cellAt QA.out 4).trans rfl
  have B_0 : wB.cell? ⟨b2, 0, none⟩ = some (.int .i64 b.view) := (cellAt QB.out 0).trans rfl
  have B_1 : wB.cell? ⟨b2, 1, none⟩ = some (.int .i64 b.normal) := (cellAt QB.out 1).trans rfl
  have B_2 : wB.cell? ⟨b2, 2, none⟩ = some (.int .i64 b.commit) := (cellAt QB.out 2).trans rfl
  have B_3 : wB.cell? ⟨b2, 3, none⟩ = some (.int .i64 b.active) := (cellAt QB.out 3).trans rfl
  have B_4 : wB.cell? ⟨b2, 4, none⟩ = some (.slice B k d) := (cellAt QB.out 4).trans rfl
  go_upto_if 52 with fail
  clear A_0 A_1 A_2 A_3 A_4 B_0 B_1 B_2 B_3 B_4
  go_cut [5] (fun v2 wx => RecsAt w0 (fun _ => False) wx v2 ((([] : List Rec) ++ lA) ++ lB))
  case first =>
    by_cases e : cm < n
    case neg =>
      have e' : (decide (cm < n)) = false := by simp at e ⊢; omega
      have G := hid (show ((([] : List Rec) ++ lA) ++ lB) = (([] : List Rec) ++ lA) by rw [HEB.out, if_neg e, List.append_nil])
      go_wp2_with fail
      go_meet
      rw [G.out]
      exact HVB.out
    have e' : (decide (cm < n)) = true := by simp at e ⊢; omega
    have G := hid (show ((([] : List Rec) ++ lA) ++ lB) = (([] : List Rec) ++ lA) ++ [⟨3, (cm : Int), 0, []⟩] by rw [HEB.out, if_pos e])
    have WF := hid (rec_wf (k := 3) (a := (cm : Int)) (b := 0) (l := []) (by omega) (by have h1 := HA.out; have h2 := HB.out.1; have h3 := LA.out; have h4 := LB.out; have h5 := HCL.out; omega) (by have h1 := HA.out; have h2 := HB.out.1; omega))
    have A_0 : wB.cell? ⟨w.heap.size, 0, none⟩ = some (.int .i64 a.view) := (cellAt QA.out 0).trans rfl
    have A_1 : wB.cell? ⟨w.heap.size, 1, none⟩ = some (.int .i64 a.normal) := (cellAt QA.out 1).trans rfl
    have A_2 : wB.cell? ⟨w.heap.size, 2, none⟩ = some (.int .i64 a.commit) := (cellAt QA.out 2).trans rfl
    have A_3 : wB.cell? ⟨w.heap.size, 3, none⟩ = some (.int .i64 a.active) := (cellAt QA.out 3).trans rfl
    have A_4 : wB.cell? ⟨w.heap.size, 4, none⟩ = some (.slice A n c) := (cellAt QA.out 4).trans rfl
    have B_0 : wB.cell? ⟨b2, 0, none⟩ = some (.int .i64 b.view) := (cellAt QB.out 0).trans rfl
    have B_1 : wB.cell? ⟨b2, 1, none⟩ = some (.int .i64 b.normal) := (cellAt QB.out 1).trans rfl
    have B_2 : wB.cell? ⟨b2, 2, none⟩ = some (.int .i64 b.commit) := (cellAt QB.out 2).trans rfl
    have B_3 : wB.cell? ⟨b2, 3, none⟩ = some (.int .i64 b.active) := (cellAt QB.out 3).trans rfl
    have B_4 : wB.cell? ⟨b2, 4, none⟩ = some (.slice B k d) := (cellAt QB.out 4).trans rfl
    go_wp2_with (first | ((with_reducible refine at_dst (N := 57) rfl ?_); refine rec_app (w0 := w0) (X := fun _ => False) rfl (.tmp 53) (.tmp 56) rfl rfl HVB.out ⟨3, (cm : Int), 0, []⟩ rfl rfl (at_nil_ _ _ _) WF.out (by simp only [List.length_append, List.length_nil]; have h1 := N1.out; have hhA := NA.out; omega) (fun _ h => h.elim) ?_; rw [← G.out]; intro v' w' h1 h2; have HV1 := hid h1; clear h1 h2))
    go_meet
    exact HV1.out
  case rest =>
  revert u5 wc
  intro wC v2 hcut
  have HVB2 := hid hcut
  clear hcut
  have QA := hid (HVB2.out.2.2.blk BA.out (fun h => h))
  have QB := hid (HVB2.out.2.2.blk BB.out (fun h => h))
  have HLB := hid (HR.out.chg HVB2.out.2.2 (fun _ _ h => h))
  obtain ⟨m9, hm9⟩ : ∃ m, k - cm = m := ⟨_, rfl⟩
  have hcmk : cm ≤ k := by have h1 := HCL.out; have h2 := LB.out; omega
  obtain ⟨B1, d1, cutB, atB⟩ := Ty.At.from_ (P := Try.prog) (d := entryK) Try.underlying30 infoEntryP B k d cm m9 (cm : Int) rfl hcmk hm9
  have HM9 := hid hm9
  clear hm9
  obtain ⟨tl, htl⟩ : ∃ l, l = b.log.drop cm := ⟨_, rfl⟩
  have ATB := hid (atB _ _ _ HLB.out)
  rw [← htl] at ATB
  have HTL := hid htl
  have HTR := hid (show ∀ e ∈ tl, entryR e = true by rw [htl]; exact fun e he => HB.out.2 e (List.mem_of_mem_drop he))
  have hm64 : m9 ≤ 64 := by have h1 := HM9.out; omega
  clear atB htl
  have A_0 : wC.cell? ⟨w.heap.size, 0, none⟩ = some (.int .i64 a.view) := (cellAt QA.out 0).trans rfl
  have A_1 : wC.cell? ⟨w.heap.size, 1, none⟩ = some (.int .i64 a.normal) := (cellAt QA.out 1).trans rfl
  have A_2 : wC.cell? ⟨w.heap.size, 2, none⟩ = some (.int .i64 a.commit) := (cellAt QA.out 2).trans rfl
  have A_3 : wC.cell? ⟨w.heap.size, 3, none⟩ = some (.int .i64 a.active) := (cellAt QA.out 3).trans rfl
  have A_4 : wC.cell? ⟨w.heap.size, 4, none⟩ = some (.slice A n c) := (cellAt QA.out 4).trans rfl
  have B_0 : wC.cell? ⟨b2, 0, none⟩ = some (.int .i64 b.view) := (cellAt QB.out 0).trans rfl
  have B_1 : wC.cell? ⟨b2, 1, none⟩ = some (.int .i64 b.normal) := (cellAt QB.out 1).trans rfl
  have B_2 : wC.cell? ⟨b2, 2, none⟩ = some (.int .i64 b.commit) := (cellAt QB.out 2).trans rfl
  have B_3 : wC.cell? ⟨b2, 3, none⟩ = some (.int .i64 b.active) := (cellAt QB.out 3).trans rfl
  have B_4 : wC.cell? ⟨b2, 4, none⟩ = some (.slice B k d) := (cellAt QB.out 4).trans rfl
  go_wp2_with fail
  refine (copied_any ATB.out (by omega) (fits_right HTR.out)).mono ?_
  rintro e wD ⟨A9, c9, rfl, hat, h9⟩
  clear A_0 A_1 A_2 A_3 A_4 B_0 B_1 B_2 B_3 B_4
  clear cutB
  have HAT := hid hat
  have HVD := hid (HVB2.out.chg h9 (fun _ h => h.elim) (fun _ h => h.elim) (fun _ h => h.elim))
  obtain ⟨X, hX⟩ : ∃ X : Nat → Prop, ∀ j, X j ↔ (wC.heap.size ≤ j ∧ j < wD.heap.size) := ⟨_, fun _ => Iff.rfl⟩
  have HX := hid hX
  have HVX := hid (HVD.out.keep (Y := X) (fun j hj hx => by have h1 := HVB2.out.2.1.lt j hj; have h2 := (HX.out j).1 hx; omega))
  have ZD := hid (show w0.heap.size ≤ wC.heap.size ∧ wC.heap.size ≤ wD.heap.size from ⟨HVB2.out.2.2.size, h9.size⟩)
  have HAX := hid (show Ty.At entryK wD X A9 m9 c9 tl from hat.mono (fun j hj => (HX.out j).2 hj))
  clear hX h9 hat HVD
  obtain ⟨L2, hL2⟩ : ∃ l, l = ((([] : List Rec) ++ lA) ++ lB) := ⟨_, rfl⟩
  rw [← hL2] at HVX
  have HL2 := hid hL2
  have NL2 := hid (show L2.length ≤ 2 by rw [hL2]; simp only [List.length_append, List.length_nil]; have h1 := NA.out; have h2 := NB.out; omega)
  clear hL2
  go_upto_block 2 with fail
  go_cut [5] (fun v3 wx => RecsAt w0 (fun _ => False) wx v3 (L2 ++ tl.map (fun e => ⟨2, 0, 0, [e]⟩)))
  case first =>
    go_wp2_with fail
    go_loopw [5, 64] (fun s5 i wr => ∃ q : Nat, q ≤ m9 ∧ i = .int .i64 q ∧ RecsAt w0 X wr s5 (L2 ++ (tl.take q).map (fun e => ⟨2, 0, 0, [e]⟩)) ∧ Chg (fun j => ¬ X j ∧ w0.heap.size ≤ j) wD wr) (fun _ i _ => m9 - (intOf i).toNat)
    case atStart => exact ⟨0, Nat.zero_le _, rfl, by rw [List.take_zero, List.map_nil, List.append_nil]; exact HVX.out, Chg.refl _ _⟩
    case round =>
      obtain ⟨q, hq, rfl, hV, hC⟩ := hrel
      have HC := hid hC
      have HV := hid hV
      clear hV
      by_cases hlt : q < m9
      · have hlt2 : (q : Int) < (m9 : Int) := by omega
        obtain ⟨r, hr⟩ : ∃ r, tl[q]? = some r := ⟨_, List.getElem?_eq_getElem (by have := HAX.out.1; omega)⟩
        have HTK := hid (show (tl.take (q + 1)).map (fun e => (⟨2, 0, 0, [e]⟩ : Rec)) = (tl.take q).map (fun e => (⟨2, 0, 0, [e]⟩ : Rec)) ++ [⟨2, 0, 0, [r]⟩] by rw [List.take_add_one, hr]; simp)
        obtain ⟨a', cs, ha, haR, hK, hcs⟩ := (HAX.out.chg hC (fun j hj hm => hm.1 hj)).get (by decide) hr
        obtain ⟨E1, m1, d1', E2, m2, d2, rfl, hrw⟩ := entry_open (id hK)
        have HRW := hid hrw
        subst ha
        have hcs2 : ∀ j u, (entryCells r E1 m1 d1' E2 m2 d2)[j]? = some u → wr.cell? (a'.add (q * 9 + j)) = some u := fun j u hj => hcs j u hj
        have x0 := elem_cell0 hcs2 _ rfl
        have x1 := elem_cell hcs2 0 _ rfl
        have x2 := elem_cell hcs2 1 _ rfl
        have x3 := elem_cell hcs2 2 _ rfl
        have x4 := elem_cell hcs2 3 _ rfl
        have x5 := elem_cell hcs2 4 _ rfl
        have x6 := elem_cell hcs2 5 _ rfl
        have x7 := elem_cell hcs2 6 _ rfl
        have x8 := elem_cell hcs2 7 _ rfl
        obtain ⟨W1, hW1⟩ : ∃ W1, W1 = wr.alloc (.cells #[.int .i64 r.view, .int .i64 r.client, .int .i64 r.request, .int .i64 r.dflt, .int .i64 r.closed, .int .i64 r.fuel, .int .i64 r.stack, .slice E1 m1 d1', .slice E2 m2 d2] 52) := ⟨_, rfl⟩
        obtain ⟨W2, hW2⟩ : ∃ W2, W2 = W1.alloc (.cells #[.int .i64 r.view, .int .i64 r.client, .int .i64 r.request, .int .i64 r.dflt, .int .i64 r.closed, .int .i64 r.fuel, .int .i64 r.stack, .slice E1 m1 d1', .slice E2 m2 d2] 52) := ⟨_, rfl⟩
        have C1 := hid (show Chg (fun _ => False) wr W1 by rw [hW1]; exact (Chg.refl _ wr).alloc _)
        have C2 := hid (show Chg (fun _ => False) wr W2 by rw [hW2]; exact C1.out.alloc _)
        have S1 := hid (show W1.heap.size = wr.heap.size + 1 by rw [hW1]; simp)
        have S2 := hid (show W2.heap.size = wr.heap.size + 2 by rw [hW2]; simp [S1.out])
        have HLIT := hid (show Ty.At entryK W2 (fun j => X j ∨ j = W1.heap.size) (some ⟨W1.heap.size, 0, none⟩) 1 1 [r] by
          rw [hW2]
          exact lit_at (entry_shut (A1 := E1) (n1 := m1) (c1 := d1') (A2 := E2) (n2 := m2) (c2 := d2) ⟨HRW.out.1, HRW.out.2.1.chg C1.out (fun _ _ h => h), HRW.out.2.2.chg C1.out (fun _ _ h => h)⟩))
        have HVW := hid (HV.out.chg C2.out (fun _ h => h.elim) (fun _ h => h.elim) (fun _ _ _ _ _ h => h.elim))
        have HLW := hid (show Ty.At entryK W2 (fun j => w0.heap.size ≤ j ∧ u5.ownBlock ≠ some j) (some ⟨W1.heap.size, 0, none⟩) 1 1 [r] from HLIT.out.mono (fun j hj => by
          have z := ZD.out
          have y := HC.out.size
          rcases hj with hj | hj
          · have h1 := (HX.out j).1 hj
            exact ⟨by omega, fun e => (HV.out.2.1.inS j e).2 hj⟩
          · have s1 := S1.out
            exact ⟨by omega, fun e => by have := HV.out.2.1.lt j e; omega⟩))
        rw [S1.out] at HLW
        clear hcs hcs2 hK hr haR hrw hC
        have hW1' := hid hW1
        have hW2' := hid hW2
        clear hW1 hW2
        go_wp2_with (first | ((with_reducible refine at_dst (N := 73) rfl ?_); rw [← hW1'.out, ← hW2'.out]; clear x0 x1 x2 x3 x4 x5 x6 x7 x8; refine rec_app (w0 := w0) (X := X) rfl (.tmp 68) (.tmp 72) rfl rfl HVW.out ⟨2, 0, 0, [r]⟩ rfl (by rw [S2.out]) HLW.out (rec_wf (by omega) (by omega) (by omega)) (by simp only [List.length_append, List.length_map, List.length_take]; have := NL2.out; omega) (fun j hj => by have h1 := (HX.out j).1 hj; have h2 := HC.out.size; have h3 := C2.out.size; omega) ?_; rw [List.append_assoc, ← HTK.out]; intro v' w' h1 h2; have HV1 := hid h1; have HC1 := hid (show Chg (fun j => ¬ X j ∧ w0.heap.size ≤ j) wD w' from (HC.out.trans (C2.out.mono (fun _ h _ => h.elim)) (fun _ h _ => h)).trans h2 (fun _ h _ => h)); clear h1 h2))
        go_roundw
        case measure => simp [intOf]; omega
        case rel => first | exact ⟨q + 1, hlt, by go_num, HV1.out, HC1.out⟩ | ((repeat apply Exists.intro); exact ⟨⟨q + 1, hlt, by go_num, HV1.out, HC1.out⟩, rfl⟩)
      · have hqn : ¬ (q : Int) < (m9 : Int) := by omega
        obtain rfl : q = m9 := by omega
        go_wp2_with fail
        go_meet
        have hv := HV.out
        rw [List.take_of_length_le (by have := HAX.out.1; omega)] at hv
        exact hv.keep (fun _ _ h => h)
  case rest =>
  revert u5 wc
  intro wE v3 hcut
  have HVE := hid hcut
  clear hcut
  have NTL := hid (show tl.length ≤ 64 by have := HAX.out.1; omega)
  have NT := hid (show (tl.map (fun e => (⟨2, 0, 0, [e]⟩ : Rec))).length ≤ 64 by rw [List.length_map]; exact NTL.out)
  obtain ⟨lC, hlC⟩ : ∃ l : List Rec, l = (if a.normal ≠ b.normal then [⟨1, b.view, b.normal, []⟩] else []) := ⟨_, rfl⟩
  have HEC := hid hlC
  have NC := hid (show lC.length ≤ 1 by rw [hlC]; split <;> simp)
  clear hlC
  have QA := hid (HVE.out.2.2.blk BA.out (fun h => h))
  have QB := hid (HVE.out.2.2.blk BB.out (fun h => h))
  have A_0 : wE.cell? ⟨w.heap.size, 0, none⟩ = some (.int .i64 a.view) := (cellAt QA.out 0).trans rfl
  have A_1 : wE.cell? ⟨w.heap.size, 1, none⟩ = some (.int .i64 a.normal) := (cellAt QA.out 1).trans rfl
  have A_2 : wE.cell? ⟨w.heap.size, 2, none⟩ = some (.int .i64 a.commit) := (cellAt QA.out 2).trans rfl
  have A_3 : wE.cell? ⟨w.heap.size, 3, none⟩ = some (.int .i64 a.active) := (cellAt QA.out 3).trans rfl
  have A_4 : wE.cell? ⟨w.heap.size, 4, none⟩ = some (.slice A n c) := (cellAt QA.out 4).trans rfl
  have B_0 : wE.cell? ⟨b2, 0, none⟩ = some (.int .i64 b.view) := (cellAt QB.out 0).trans rfl
  have B_1 : wE.cell? ⟨b2, 1, none⟩ = some (.int .i64 b.normal) := (cellAt QB.out 1).trans rfl
  have B_2 : wE.cell? ⟨b2, 2, none⟩ = some (.int .i64 b.commit) := (cellAt QB.out 2).trans rfl
  have B_3 : wE.cell? ⟨b2, 3, none⟩ = some (.int .i64 b.active) := (cellAt QB.out 3).trans rfl
  have B_4 : wE.cell? ⟨b2, 4, none⟩ = some (.slice B k d) := (cellAt QB.out 4).trans rfl
  go_upto_if 79 with fail
  clear A_0 A_1 A_2 A_3 A_4 B_0 B_1 B_2 B_3 B_4
  go_cut [5] (fun v4 wx => RecsAt w0 (fun _ => False) wx v4 ((L2 ++ tl.map (fun e => ⟨2, 0, 0, [e]⟩)) ++ lC))
  case first =>
    by_cases e : a.normal ≠ b.normal
    case neg =>
      have e' : (a.normal != b.normal) = false := by simp at e ⊢; omega
      have G := hid (show ((L2 ++ tl.map (fun e => ⟨2, 0, 0, [e]⟩)) ++ lC) = (L2 ++ tl.map (fun e => ⟨2, 0, 0, [e]⟩)) by rw [HEC.out, if_neg e, List.append_nil])
      clear e
      go_wp2_with fail
      go_meet
      rw [G.out]
      exact HVE.out
    have e' : (a.normal != b.normal) = true := by simp at e ⊢; omega
    have G := hid (show ((L2 ++ tl.map (fun e => ⟨2, 0, 0, [e]⟩)) ++ lC) = (L2 ++ tl.map (fun e => ⟨2, 0, 0, [e]⟩)) ++ [⟨1, b.view, b.normal, []⟩] by rw [HEC.out, if_pos e])
    clear e
    have WF := hid (rec_wf (k := 1) (a := b.view) (b := b.normal) (l := []) (by omega) (by have h1 := HA.out; have h2 := HB.out.1; have h3 := LA.out; have h4 := LB.out; have h5 := HCL.out; omega) (by have h1 := HA.out; have h2 := HB.out.1; omega))
    have A_0 : wE.cell? ⟨w.heap.size, 0, none⟩ = some (.int .i64 a.view) := (cellAt QA.out 0).trans rfl
    have A_1 : wE.cell? ⟨w.heap.size, 1, none⟩ = some (.int .i64 a.normal) := (cellAt QA.out 1).trans rfl
    have A_2 : wE.cell? ⟨w.heap.size, 2, none⟩ = some (.int .i64 a.commit) := (cellAt QA.out 2).trans rfl
    have A_3 : wE.cell? ⟨w.heap.size, 3, none⟩ = some (.int .i64 a.active) := (cellAt QA.out 3).trans rfl
    have A_4 : wE.cell? ⟨w.heap.size, 4, none⟩ = some (.slice A n c) := (cellAt QA.out 4).trans rfl
    have B_0 : wE.cell? ⟨b2, 0, none⟩ = some (.int .i64 b.view) := (cellAt QB.out 0).trans rfl
    have B_1 : wE.cell? ⟨b2, 1, none⟩ = some (.int .i64 b.normal) := (cellAt QB.out 1).trans rfl
    have B_2 : wE.cell? ⟨b2, 2, none⟩ = some (.int .i64 b.commit) := (cellAt QB.out 2).trans rfl
    have B_3 : wE.cell? ⟨b2, 3, none⟩ = some (.int .i64 b.active) := (cellAt QB.out 3).trans rfl
    have B_4 : wE.cell? ⟨b2, 4, none⟩ = some (.slice B k d) := (cellAt QB.out 4).trans rfl
    go_wp2_with (first | ((with_reducible refine at_dst (N := 87) rfl ?_); refine rec_app (w0 := w0) (X := fun _ => False) rfl (.tmp 80) (.tmp 86) rfl rfl HVE.out ⟨1, b.view, b.normal, []⟩ rfl rfl (at_nil_ _ _ _) WF.out (by simp only [List.length_append, List.length_nil]; have h1 := N1.out; have hhL2 := NL2.out; have hhT := NT.out; omega) (fun _ h => h.elim) ?_; rw [← G.out]; intro v' w' h1 h2; have HV1 := hid h1; clear h1 h2))
    go_meet
    exact HV1.out
  case rest =>
  revert u5 wc
  intro wF v4 hcut
  have HVC := hid hcut
  clear hcut
  obtain ⟨lD, hlD⟩ : ∃ l : List Rec, l = (if a.commit ≠ b.commit then [⟨4, b.commit, 0, []⟩] else []) := ⟨_, rfl⟩
  have HED := hid hlD
  have ND := hid (show lD.length ≤ 1 by rw [hlD]; split <;> simp)
  clear hlD
  have QA := hid (HVC.out.2.2.blk BA.out (fun h => h))
  have QB := hid (HVC.out.2.2.blk BB.out (fun h => h))
  have A_0 : wF.cell? ⟨w.heap.size, 0, none⟩ = some (.int .i64 a.view) := (cellAt QA.out 0).trans rfl
  have A_1 : wF.cell? ⟨w.heap.size, 1, none⟩ = some (.int .i64 a.normal) := (cellAt QA.out 1).trans rfl
  have A_2 : wF.cell? ⟨w.heap.size, 2, none⟩ = some (.int .i64 a.commit) := (cellAt QA.out 2).trans rfl
  have A_3 : wF.cell? ⟨w.heap.size, 3, none⟩ = some (.int .i64 a.active) := (cellAt QA.out 3).trans rfl
  have A_4 : wF.cell? ⟨w.heap.size, 4, none⟩ = some (.slice A n c) := (cellAt QA.out 4).trans rfl
  have B_0 : wF.cell? ⟨b2, 0, none⟩ = some (.int .i64 b.view) := (cellAt QB.out 0).trans rfl
  have B_1 : wF.cell? ⟨b2, 1, none⟩ = some (.int .i64 b.normal) := (cellAt QB.out 1).trans rfl
  have B_2 : wF.cell? ⟨b2, 2, none⟩ = some (.int .i64 b.commit) := (cellAt QB.out 2).trans rfl
  have B_3 : wF.cell? ⟨b2, 3, none⟩ = some (.int .i64 b.active) := (cellAt QB.out 3).trans rfl
  have B_4 : wF.cell? ⟨b2, 4, none⟩ = some (.slice B k d) := (cellAt QB.out 4).trans rfl
  go_upto_if 92 with fail
  clear A_0 A_1 A_2 A_3 A_4 B_0 B_1 B_2 B_3 B_4
  go_cut [5] (fun v5 wx => RecsAt w0 (fun _ => False) wx v5 (((L2 ++ tl.map (fun e => ⟨2, 0, 0, [e]⟩)) ++ lC) ++ lD))
  case first =>
    by_cases e : a.commit ≠ b.commit
    case neg =>
      have e' : (a.commit != b.commit) = false := by simp at e ⊢; omega
      have G := hid (show (((L2 ++ tl.map (fun e => ⟨2, 0, 0, [e]⟩)) ++ lC) ++ lD) = ((L2 ++ tl.map (fun e => ⟨2, 0, 0, [e]⟩)) ++ lC) by rw [HED.out, if_neg e, List.append_nil])
      clear e
      go_wp2_with fail
      go_meet
      rw [G.out]
      exact HVC.out
    have e' : (a.commit != b.commit) = true := by simp at e ⊢; omega
    have G := hid (show (((L2 ++ tl.map (fun e => ⟨2, 0, 0, [e]⟩)) ++ lC) ++ lD) = ((L2 ++ tl.map (fun e => ⟨2, 0, 0, [e]⟩)) ++ lC) ++ [⟨4, b.commit, 0, []⟩] by rw [HED.out, if_pos e])
    clear e
    have WF := hid (rec_wf (k := 4) (a := b.commit) (b := 0) (l := []) (by omega) (by have h1 := HA.out; have h2 := HB.out.1; have h3 := LA.out; have h4 := LB.out; have h5 := HCL.out; omega) (by have h1 := HA.out; have h2 := HB.out.1; omega))
    have A_0 : wF.cell? ⟨w.heap.size, 0, none⟩ = some (.int .i64 a.view) := (cellAt QA.out 0).trans rfl
    have A_1 : wF.cell? ⟨w.heap.size, 1, none⟩ = some (.int .i64 a.normal) := (cellAt QA.out 1).trans rfl
    have A_2 : wF.cell? ⟨w.heap.size, 2, none⟩ = some (.int .i64 a.commit) := (cellAt QA.out 2).trans rfl
    have A_3 : wF.cell? ⟨w.heap.size, 3, none⟩ = some (.int .i64 a.active) := (cellAt QA.out 3).trans rfl
    have A_4 : wF.cell? ⟨w.heap.size, 4, none⟩ = some (.slice A n c) := (cellAt QA.out 4).trans rfl
    have B_0 : wF.cell? ⟨b2, 0, none⟩ = some (.int .i64 b.view) := (cellAt QB.out 0).trans rfl
    have B_1 : wF.cell? ⟨b2, 1, none⟩ = some (.int .i64 b.normal) := (cellAt QB.out 1).trans rfl
    have B_2 : wF.cell? ⟨b2, 2, none⟩ = some (.int .i64 b.commit) := (cellAt QB.out 2).trans rfl
    have B_3 : wF.cell? ⟨b2, 3, none⟩ = some (.int .i64 b.active) := (cellAt QB.out 3).trans rfl
    have B_4 : wF.cell? ⟨b2, 4, none⟩ = some (.slice B k d) := (cellAt QB.out 4).trans rfl
    go_wp2_with (first | ((with_reducible refine at_dst (N := 98) rfl ?_); refine rec_app (w0 := w0) (X := fun _ => False) rfl (.tmp 93) (.tmp 97) rfl rfl HVC.out ⟨4, b.commit, 0, []⟩ rfl rfl (at_nil_ _ _ _) WF.out (by simp only [List.length_append, List.length_nil]; have h1 := N1.out; have hhL2 := NL2.out; have hhT := NT.out; have hhC := NC.out; omega) (fun _ h => h.elim) ?_; rw [← G.out]; intro v' w' h1 h2; have HV1 := hid h1; clear h1 h2))
    go_meet
    exact HV1.out
  case rest =>
  revert u5 wc
  intro wG v5 hcut
  have HVD := hid hcut
  clear hcut
  obtain ⟨lE, hlE⟩ : ∃ l : List Rec, l = (if a.active ≠ b.active then [⟨5, b.active, 0, []⟩] else []) := ⟨_, rfl⟩
  have HEE := hid hlE
  have NE := hid (show lE.length ≤ 1 by rw [hlE]; split <;> simp)
  clear hlE
  have QA := hid (HVD.out.2.2.blk BA.out (fun h => h))
  have QB := hid (HVD.out.2.2.blk BB.out (fun h => h))
  have A_0 : wG.cell? ⟨w.heap.size, 0, none⟩ = some (.int .i64 a.view) := (cellAt QA.out 0).trans rfl
  have A_1 : wG.cell? ⟨w.heap.size, 1, none⟩ = some (.int .i64 a.normal) := (cellAt QA.out 1).trans rfl
  have A_2 : wG.cell? ⟨w.heap.size, 2, none⟩ = some (.int .i64 a.commit) := (cellAt QA.out 2).trans rfl
  have A_3 : wG.cell? ⟨w.heap.size, 3, none⟩ = some (.int .i64 a.active) := (cellAt QA.out 3).trans rfl
  have A_4 : wG.cell? ⟨w.heap.size, 4, none⟩ = some (.slice A n c) := (cellAt QA.out 4).trans rfl
  have B_0 : wG.cell? ⟨b2, 0, none⟩ = some (.int .i64 b.view) := (cellAt QB.out 0).trans rfl
  have B_1 : wG.cell? ⟨b2, 1, none⟩ = some (.int .i64 b.normal) := (cellAt QB.out 1).trans rfl
  have B_2 : wG.cell? ⟨b2, 2, none⟩ = some (.int .i64 b.commit) := (cellAt QB.out 2).trans rfl
  have B_3 : wG.cell? ⟨b2, 3, none⟩ = some (.int .i64 b.active) := (cellAt QB.out 3).trans rfl
  have B_4 : wG.cell? ⟨b2, 4, none⟩ = some (.slice B k d) := (cellAt QB.out 4).trans rfl
  go_upto_if 103 with fail
  clear A_0 A_1 A_2 A_3 A_4 B_0 B_1 B_2 B_3 B_4
  go_cut [5] (fun v6 wx => RecsAt w0 (fun _ => False) wx v6 ((((L2 ++ tl.map (fun e => ⟨2, 0, 0, [e]⟩)) ++ lC) ++ lD) ++ lE))
  case first =>
    by_cases e : a.active ≠ b.active
    case neg =>
      have e' : (a.active != b.active) = false := by simp at e ⊢; omega
      have G := hid (show ((((L2 ++ tl.map (fun e => ⟨2, 0, 0, [e]⟩)) ++ lC) ++ lD) ++ lE) = (((L2 ++ tl.map (fun e => ⟨2, 0, 0, [e]⟩)) ++ lC) ++ lD) by rw [HEE.out, if_neg e, List.append_nil])
      clear e
      go_wp2_with fail
      go_meet
      rw [G.out]
      exact HVD.out
    have e' : (a.active != b.active) = true := by simp at e ⊢; omega
    have G := hid (show ((((L2 ++ tl.map (fun e => ⟨2, 0, 0, [e]⟩)) ++ lC) ++ lD) ++ lE) = (((L2 ++ tl.map (fun e => ⟨2, 0, 0, [e]⟩)) ++ lC) ++ lD) ++ [⟨5, b.active, 0, []⟩] by rw [HEE.out, if_pos e])
    clear e
    have WF := hid (rec_wf (k := 5) (a := b.active) (b := 0) (l := []) (by omega) (by have h1 := HA.out; have h2 := HB.out.1; have h3 := LA.out; have h4 := LB.out; have h5 := HCL.out; omega) (by have h1 := HA.out; have h2 := HB.out.1; omega))
    have A_0 : wG.cell? ⟨w.heap.size, 0, none⟩ = some (.int .i64 a.view) := (cellAt QA.out 0).trans rfl
    have A_1 : wG.cell? ⟨w.heap.size, 1, none⟩ = some (.int .i64 a.normal) := (cellAt QA.out 1).trans rfl
    have A_2 : wG.cell? ⟨w.heap.size, 2, none⟩ = some (.int .i64 a.commit) := (cellAt QA.out 2).trans rfl
    have A_3 : wG.cell? ⟨w.heap.size, 3, none⟩ = some (.int .i64 a.active) := (cellAt QA.out 3).trans rfl
    have A_4 : wG.cell? ⟨w.heap.size, 4, none⟩ = some (.slice A n c) := (cellAt QA.out 4).trans rfl
    have B_0 : wG.cell? ⟨b2, 0, none⟩ = some (.int .i64 b.view) := (cellAt QB.out 0).trans rfl
    have B_1 : wG.cell? ⟨b2, 1, none⟩ = some (.int .i64 b.normal) := (cellAt QB.out 1).trans rfl
    have B_2 : wG.cell? ⟨b2, 2, none⟩ = some (.int .i64 b.commit) := (cellAt QB.out 2).trans rfl
    have B_3 : wG.cell? ⟨b2, 3, none⟩ = some (.int .i64 b.active) := (cellAt QB.out 3).trans rfl
    have B_4 : wG.cell? ⟨b2, 4, none⟩ = some (.slice B k d) := (cellAt QB.out 4).trans rfl
    go_wp2_with (first | ((with_reducible refine at_dst (N := 109) rfl ?_); refine rec_app (w0 := w0) (X := fun _ => False) rfl (.tmp 104) (.tmp 108) rfl rfl HVD.out ⟨5, b.active, 0, []⟩ rfl rfl (at_nil_ _ _ _) WF.out (by simp only [List.length_append, List.length_nil]; have h1 := N1.out; have hhL2 := NL2.out; have hhT := NT.out; have hhC := NC.out; have hhD := ND.out; omega) (fun _ h => h.elim) ?_; rw [← G.out]; intro v' w' h1 h2; have HV1 := hid h1; clear h1 h2))
    go_meet
    exact HV1.out
  case rest =>
  revert u5 wc
  intro wH v6 hcut
  have HVZ := hid hcut
  clear hcut
  have HEQ := hid (show recordsS a b = ((((L2 ++ tl.map (fun e => ⟨2, 0, 0, [e]⟩)) ++ lC) ++ lD) ++ lE) by
    unfold recordsS
    rw [HL2.out, HEA.out, HEB.out, HEC.out, HED.out, HEE.out, HTL.out, ← HCM.out, ← LA.out]
    simp only [List.nil_append, List.append_assoc])
  obtain ⟨⟨A', c', hv⟩, hV, hC⟩ := HVZ.out
  rw [← HEQ.out] at hv hV
  obtain ⟨nn, hnn⟩ : ∃ x, x = (recordsS a b).length := ⟨_, rfl⟩
  rw [← hnn] at hv
  have HNN := hid hnn
  have GV := hid hV
  have GC := hid hC
  clear hnn hV hC
  subst hv
  go_wp2_with fail
  go_ret
  have s0 := C0.out.size
  refine ⟨A', c', by rw [← HNN.out]; rfl, ?_, C0.out.trans GC.out (fun _ h _ => h)⟩
  rw [← HNN.out]
  exact GV.out.at.bound.mono (fun j hj => ⟨by rcases hj.1 with h | h; exact Nat.le_trans s0 h.1; exact Nat.le_trans s0 h, hj.2⟩)
end Go.Proofs.Ytfpjickdkkhndaa.Pa


/- The contract of Between. -/

namespace Go.Proofs.Ytfpjickdkkhndaa.Pa

set_option linter.unusedVariables false

set_option linter.unusedSimpArgs false

open Go.RowKit Go.Proofs.Ytfpjickdkkhndaa.C

attribute [local go_sem] max2_int min2_int max_two min_two
theorem rec_open_l {w : World} {S : Nat → Prop} {m : Rec} {cs : List Value} (h : recK.K w S m cs) : ∃ A n c, cs = [.int .i64 m.kind, .int .i64 m.a, .int .i64 m.b, .slice A n c] ∧ Ty.At entryK w S A n c m.log := by
  obtain ⟨_, _, e1, ⟨rfl, w1⟩, _, _, rfl, ⟨rfl, w2⟩, _, _, rfl, ⟨rfl, w3⟩, A, n, c, rfl, h⟩ := h
  exact ⟨A, n, c, e1, h⟩
theorem applyAll_snoc {s s' : St} {l : List Rec} {q : Nat} {r : Rec} (h : applyAll s (l.take q) = some s') (hr : l[q]? = some r) : applyAll s (l.take (q + 1)) = applyS s' r := by
  rw [List.take_add_one, hr, Option.toList_some, applyAll_append, h, Option.bind_some, applyAll_one]
theorem applyAll_stop {s s' : St} {l : List Rec} {q : Nat} {r : Rec} (h : applyAll s (l.take q) = some s') (hr : l[q]? = some r) (hn : applyS s' r = none) : applyAll s l = none := by
  rw [← List.take_append_drop (q + 1) l, applyAll_append, applyAll_snoc h hr, hn]
  rfl
def BetweenTo (a b : St) (w : World) (e' : Ending) (w' : World) : Prop :=
  ∃ A' n' c', e' = .returned (.tuple #[.slice A' n' c', .int .i64 (betweenS a b).2]) ∧ Ty.At recK w' (fun k => w.heap.size ≤ k ∧ k < w'.heap.size) A' n' c' (betweenS a b).1 ∧ Chg (fun _ => False) w w'
set_option maxHeartbeats 4000000 in
set_option maxRecDepth 100000 in
theorem between_any {w : World} {R R2 : Nat → Prop} {a b : St} {A : Option Addr} {n c : Nat} {B : Option Addr} {k d : Nat} (hl : Ty.At entryK w R A n c a.log) (hr : Ty.At entryK w R2 B k d b.log) :
    Calls Try.prog 35 #[.agg #[.int .i64 a.view, .int .i64 a.normal, .int .i64 a.commit, .int .i64 a.active, .slice A n c], .agg #[.int .i64 b.view, .int .i64 b.normal, .int .i64 b.commit, .int .i64 b.active, .slice B k d]] w (BetweenTo a b w) := by
  obtain ⟨b2, hb2⟩ : ∃ x, x = w.heap.size + 1 := ⟨_, rfl⟩
  obtain ⟨w0, hw0⟩ : ∃ x, x = ((w.alloc (.cells #[.int .i64 a.view, .int .i64 a.normal, .int .i64 a.commit, .int .i64 a.active, .slice A n c] 32)).alloc (.cells #[.int .i64 b.view, .int .i64 b.normal, .int .i64 b.commit, .int .i64 b.active, .slice B k d] 32)) := ⟨_, rfl⟩
  have C0 := hid (show Chg (fun _ => False) w w0 by rw [hw0]; exact ((Chg.refl _ w).alloc _).alloc _)
  have BA := hid (show w0.heap[w.heap.size]? = some (.cells #[.int .i64 a.view, .int .i64 a.normal, .int .i64 a.commit, .int .i64 a.active, .slice A n c] 32 (0, 0)) by
    rw [hw0]
    refine blk_alloc ?_ _
    have := blk_new w (.cells #[.int .i64 a.view, .int .i64 a.normal, .int .i64 a.commit, .int .i64 a.active, .slice A n c] 32)
    simpa using this)
  have BB := hid (show w0.heap[b2]? = some (.cells #[.int .i64 b.view, .int .i64 b.normal, .int .i64 b.commit, .int .i64 b.active, .slice B k d] 32 (0, 0)) by
    rw [hw0, hb2]
    have := blk_new (w.alloc (.cells #[.int .i64 a.view, .int .i64 a.normal, .int .i64 a.commit, .int .i64 a.active, .slice A n c] 32)) (.cells #[.int .i64 b.view, .int .i64 b.normal, .int .i64 b.commit, .int .i64 b.active, .slice B k d] 32)
    simpa using this)
  have ne01 : w.heap.size ≠ b2 := by omega
  have ne10 : b2 ≠ w.heap.size := by omega
  have Hb2 := hid hb2
  have ltb2 : w.heap.size < b2 := by omega
  have SZ := hid (show w0.heap.size = w.heap.size + 2 by rw [hw0]; simp)
  have HL := hid (hl.bound.chg C0.out (fun _ _ h => h))
  have HR := hid (hr.bound.chg C0.out (fun _ _ h => h))
  clear hl hr
  go_enter Try.func35, Try.ntmps35
  go_wp2_with fail
  rw [← hb2, ← hw0]
  clear hw0 hb2
  have A_0 : w0.cell? ⟨w.heap.size, 0, none⟩ = some (.int .i64 a.view) := (cellAt BA.out 0).trans rfl
  have A_1 : w0.cell? ⟨w.heap.size, 1, none⟩ = some (.int .i64 a.normal) := (cellAt BA.out 1).trans rfl
  have A_2 : w0.cell? ⟨w.heap.size, 2, none⟩ = some (.int .i64 a.commit) := (cellAt BA.out 2).trans rfl
  have A_3 : w0.cell? ⟨w.heap.size, 3, none⟩ = some (.int .i64 a.active) := (cellAt BA.out 3).trans rfl
  have A_4 : w0.cell? ⟨w.heap.size, 4, none⟩ = some (.slice A n c) := (cellAt BA.out 4).trans rfl
  have B_0 : w0.cell? ⟨b2, 0, none⟩ = some (.int .i64 b.view) := (cellAt BB.out 0).trans rfl
  have B_1 : w0.cell? ⟨b2, 1, none⟩ = some (.int .i64 b.normal) := (cellAt BB.out 1).trans rfl
  have B_2 : w0.cell? ⟨b2, 2, none⟩ = some (.int .i64 b.commit) := (cellAt BB.out 2).trans rfl
  have B_3 : w0.cell? ⟨b2, 3, none⟩ = some (.int .i64 b.active) := (cellAt BB.out 3).trans rfl
  have B_4 : w0.cell? ⟨b2, 4, none⟩ = some (.slice B k d) := (cellAt BB.out 4).trans rfl
  refine (stright_any HL.out).mono ?_
  rintro e w1 ⟨rfl, h1⟩
  have C1 := hid h1
  clear h1
  clear A_0 A_1 A_2 A_3 A_4 B_0 B_1 B_2 B_3 B_4
  replace BA := hid ((C1.out).blk BA.out (fun h => h))
  replace BB := hid ((C1.out).blk BB.out (fun h => h))
  cases hs : stR a
  · have G := hid (show betweenS a b = ([], 10) by unfold betweenS; rw [hs]; rfl)
    clear hs
    go_wp2_with fail
    go_ret2
    exact ⟨none, 0, 0, by rw [G.out]; rfl, by rw [G.out]; exact at_nil_ _ _ _, C0.out.trans C1.out (fun _ h _ => h)⟩
  have HA := hid hs
  clear hs
  have A_0 : w1.cell? ⟨w.heap.size, 0, none⟩ = some (.int .i64 a.view) := (cellAt BA.out 0).trans rfl
  have A_1 : w1.cell? ⟨w.heap.size, 1, none⟩ = some (.int .i64 a.normal) := (cellAt BA.out 1).trans rfl
  have A_2 : w1.cell? ⟨w.heap.size, 2, none⟩ = some (.int .i64 a.commit) := (cellAt BA.out 2).trans rfl
  have A_3 : w1.cell? ⟨w.heap.size, 3, none⟩ = some (.int .i64 a.active) := (cellAt BA.out 3).trans rfl
  have A_4 : w1.cell? ⟨w.heap.size, 4, none⟩ = some (.slice A n c) := (cellAt BA.out 4).trans rfl
  have B_0 : w1.cell? ⟨b2, 0, none⟩ = some (.int .i64 b.view) := (cellAt BB.out 0).trans rfl
  have B_1 : w1.cell? ⟨b2, 1, none⟩ = some (.int .i64 b.normal) := (cellAt BB.out 1).trans rfl
  have B_2 : w1.cell? ⟨b2, 2, none⟩ = some (.int .i64 b.commit) := (cellAt BB.out 2).trans rfl
  have B_3 : w1.cell? ⟨b2, 3, none⟩ = some (.int .i64 b.active) := (cellAt BB.out 3).trans rfl
  have B_4 : w1.cell? ⟨b2, 4, none⟩ = some (.slice B k d) := (cellAt BB.out 4).trans rfl
  go_wp2_with fail
  refine (stright_any (HR.out.chg C1.out (fun _ _ h => h))).mono ?_
  rintro e w2 ⟨rfl, h2⟩
  have C2 := hid (C1.out.trans h2 (fun _ h _ => h))
  clear A_0 A_1 A_2 A_3 A_4 B_0 B_1 B_2 B_3 B_4
  replace BA := hid ((h2).blk BA.out (fun h => h))
  replace BB := hid ((h2).blk BB.out (fun h => h))
  clear h2
  cases hs : stR b
  · have G := hid (show betweenS a b = ([], 10) by unfold betweenS; rw [hs, Bool.and_false]; rfl)
    clear hs
    go_wp2_with fail
    go_ret2
    exact ⟨none, 0, 0, by rw [G.out]; rfl, by rw [G.out]; exact at_nil_ _ _ _, C0.out.trans C2.out (fun _ h _ => h)⟩
  have HB := hid hs
  clear hs
  have A_0 : w2.cell? ⟨w.heap.size, 0, none⟩ = some (.int .i64 a.view) := (cellAt BA.out 0).trans rfl
  have A_1 : w2.cell? ⟨w.heap.size, 1, none⟩ = some (.int .i64 a.normal) := (cellAt BA.out 1).trans rfl
  have A_2 : w2.cell? ⟨w.heap.size, 2, none⟩ = some (.int .i64 a.commit) := (cellAt BA.out 2).trans rfl
  have A_3 : w2.cell? ⟨w.heap.size, 3, none⟩ = some (.int .i64 a.active) := (cellAt BA.out 3).trans rfl
  have A_4 : w2.cell? ⟨w.heap.size, 4, none⟩ = some (.slice A n c) := (cellAt BA.out 4).trans rfl
  have B_0 : w2.cell? ⟨b2, 0, none⟩ = some (.int .i64 b.view) := (cellAt BB.out 0).trans rfl
  have B_1 : w2.cell? ⟨b2, 1, none⟩ = some (.int .i64 b.normal) := (cellAt BB.out 1).trans rfl
  have B_2 : w2.cell? ⟨b2, 2, none⟩ = some (.int .i64 b.commit) := (cellAt BB.out 2).trans rfl
  have B_3 : w2.cell? ⟨b2, 3, none⟩ = some (.int .i64 b.active) := (cellAt BB.out 3).trans rfl
  have B_4 : w2.cell? ⟨b2, 4, none⟩ = some (.slice B k d) := (cellAt BB.out 4).trans rfl
  go_wp2_with fail
  refine (records_any (HL.out.chg C2.out (fun _ _ h => h)) (HR.out.chg C2.out (fun _ _ h => h)) HA.out HB.out).mono ?_
  rintro e w3 ⟨A9, c9, rfl, hat, h3⟩
  have C3 := hid (C2.out.trans h3 (fun _ h _ => h))
  have C23 := hid (show w2.heap.size ≤ w3.heap.size from h3.size)
  clear A_0 A_1 A_2 A_3 A_4 B_0 B_1 B_2 B_3 B_4
  replace BA := hid ((h3).blk BA.out (fun h => h))
  replace BB := hid ((h3).blk BB.out (fun h => h))
  obtain ⟨L, hL⟩ : ∃ L, L = recordsS a b := ⟨_, rfl⟩
  rw [← hL] at hat ⊢
  have HLL := hid hL
  have HRR := hid (show ∀ r ∈ L, recR r = true by rw [hL]; exact recordsS_right HA.out HB.out)
  have GB := hid (show betweenS a b = (match applyAll a L with | some _ => (L, 0) | none => ([], 54)) by unfold betweenS; rw [HA.out, HB.out, hL]; rfl)
  obtain ⟨N, hN⟩ : ∃ N, N = L.length := ⟨_, rfl⟩
  rw [← hN] at hat ⊢
  have HN := hid hN
  have HAT := hid hat
  have hn64 : n ≤ 1000000 := by have h1 := (stR_iff.1 HA.out).1; have h2 := HL.out.1; omega
  have hNm : (N : Int) ≤ 9223372036854775807 := by have q1 := hat.2.1; have q2 := hat.2.2.1; simp [maxLen] at q2; omega
  clear h3 hat hL hN
  have A_0 : w3.cell? ⟨w.heap.size, 0, none⟩ = some (.int .i64 a.view) := (cellAt BA.out 0).trans rfl
  have A_1 : w3.cell? ⟨w.heap.size, 1, none⟩ = some (.int .i64 a.normal) := (cellAt BA.out 1).trans rfl
  have A_2 : w3.cell? ⟨w.heap.size, 2, none⟩ = some (.int .i64 a.commit) := (cellAt BA.out 2).trans rfl
  have A_3 : w3.cell? ⟨w.heap.size, 3, none⟩ = some (.int .i64 a.active) := (cellAt BA.out 3).trans rfl
  have A_4 : w3.cell? ⟨w.heap.size, 4, none⟩ = some (.slice A n c) := (cellAt BA.out 4).trans rfl
  go_wp2_with fail
  refine (copied_any (HL.out.chg C3.out (fun _ _ h => h)) hn64 (fits_right (stR_iff.1 HA.out).2)).mono ?_
  rintro e w4 ⟨A4, c4, rfl, hat, h4⟩
  have C4 := hid (C3.out.trans h4 (fun _ h _ => h))
  have H4 := hid hat
  have C34 := hid (show w3.heap.size ≤ w4.heap.size from h4.size)
  replace HAT := hid (HAT.out.chg h4 (fun _ _ h => h))
  clear A_0 A_1 A_2 A_3 A_4
  replace BA := hid ((h4).blk BA.out (fun h => h))
  replace BB := hid ((h4).blk BB.out (fun h => h))
  clear h4 hat
  have A_0 : w4.cell? ⟨w.heap.size, 0, none⟩ = some (.int .i64 a.view) := (cellAt BA.out 0).trans rfl
  have A_f0 : w4.frozen? ⟨w.heap.size, 0, none⟩ = false := freeAt BA.out 0
  have A_1 : w4.cell? ⟨w.heap.size, 1, none⟩ = some (.int .i64 a.normal) := (cellAt BA.out 1).trans rfl
  have A_f1 : w4.frozen? ⟨w.heap.size, 1, none⟩ = false := freeAt BA.out 1
  have A_2 : w4.cell? ⟨w.heap.size, 2, none⟩ = some (.int .i64 a.commit) := (cellAt BA.out 2).trans rfl
  have A_f2 : w4.frozen? ⟨w.heap.size, 2, none⟩ = false := freeAt BA.out 2
  have A_3 : w4.cell? ⟨w.heap.size, 3, none⟩ = some (.int .i64 a.active) := (cellAt BA.out 3).trans rfl
  have A_f3 : w4.frozen? ⟨w.heap.size, 3, none⟩ = false := freeAt BA.out 3
  have A_4 : w4.cell? ⟨w.heap.size, 4, none⟩ = some (.slice A n c) := (cellAt BA.out 4).trans rfl
  have A_f4 : w4.frozen? ⟨w.heap.size, 4, none⟩ = false := freeAt BA.out 4
  have Z0 := hid (show w0.heap.size ≤ w2.heap.size ∧ w0.heap.size ≤ w3.heap.size ∧ w.heap.size < w0.heap.size by have q1 := C2.out.size; have q2 := C3.out.size; have q3 := SZ.out; omega)
  have HS4 := hid (show Ty.At entryK (w4.setCell ⟨w.heap.size, 4, none⟩ (.slice A4 n c4)) (fun k => w0.heap.size ≤ k) A4 n c4 a.log from (H4.out.chg ((Chg.refl (fun k => k = w.heap.size) w4).set (fun _ => rfl) _) (fun j hj e => by have q1 := Z0.out; have q2 := hj.1; omega)).mono (fun j hj => by have q1 := Z0.out; have q2 := hj.1; omega))
  have BA4 := hid (show (w4.setCell ⟨w.heap.size, 4, none⟩ (.slice A4 n c4)).heap[w.heap.size]? = some (.cells (stRow [] [] a A4 n c4) 32 (0, 0)) from blk_set BA.out 4 _)
  have D4 := hid (show Chg (fun k => k = w.heap.size) w4 (w4.setCell ⟨w.heap.size, 4, none⟩ (.slice A4 n c4)) from (Chg.refl (fun k => k = w.heap.size) w4).set (fun _ => rfl) _)
  go_wp2_with fail
  go_loopw [26] (fun i wr => ∃ (q : Nat) (s' : St) (A' : Option Addr) (n' c' : Nat), q ≤ N ∧ i = .int .i64 q ∧ applyAll a (L.take q) = some s' ∧ stR s' = true ∧ wr.heap[w.heap.size]? = some (.cells (stRow [] [] s' A' n' c') 32 (0, 0)) ∧ Ty.At entryK wr (fun k => w0.heap.size ≤ k) A' n' c' s'.log ∧ Chg (fun k => k = w.heap.size) w4 wr) (fun i _ => N - (intOf i).toNat)
  case atStart => exact ⟨0, a, A4, n, c4, Nat.zero_le _, rfl, by rw [List.take_zero]; rfl, HA.out, BA4.out, HS4.out, D4.out⟩
  case round =>
    obtain ⟨q, s', A', n', c', hq, rfl, hap, hst, hbk, hlg, hC⟩ := hrel
    have HAP := hid hap
    have HST := hid hst
    have HBK := hid hbk
    have HLG := hid hlg
    have HC := hid hC
    clear hap hst hbk hlg hC
    clear A_0 A_f0 A_1 A_f1 A_2 A_f2 A_3 A_f3 A_4 A_f4
    by_cases hlt : q < N
    · have hlt2 : (q : Int) < (N : Int) := by omega
      obtain ⟨r, hr⟩ : ∃ r, L[q]? = some r := ⟨_, List.getElem?_eq_getElem (by have := HN.out; omega)⟩
      have HRQ := hid hr
      obtain ⟨a', cs, ha, haR, hK, hcs⟩ := (HAT.out.chg HC.out (fun j hj e => by have h1 := hj.1; have h2 := Z0.out; omega)).get (by decide) hr
      obtain ⟨E1, m1, d1, rfl, hrw⟩ := rec_open_l hK
      have HRW := hid hrw
      subst ha
      have hcs2 : ∀ j u, [Value.int .i64 r.kind, .int .i64 r.a, .int .i64 r.b, .slice E1 m1 d1][j]? = some u → wr.cell? (a'.add (q * 4 + j)) = some u := fun j u hj => hcs j u hj
      have x0 := elem_cell0 hcs2 _ rfl
      have x1 := elem_cell hcs2 0 _ rfl
      have x2 := elem_cell hcs2 1 _ rfl
      have x3 := elem_cell hcs2 2 _ rfl
      clear hcs hcs2 hK hr haR hrw
      obtain ⟨W1, hW1⟩ : ∃ W1, W1 = wr.alloc (.cells #[.int .i64 r.kind, .int .i64 r.a, .int .i64 r.b, .slice E1 m1 d1] 62) := ⟨_, rfl⟩
      have C5 := hid (show Chg (fun _ => False) wr W1 by rw [hW1]; exact (Chg.refl _ wr).alloc _)
      go_wp2_with fail
      rw [← hW1]
      clear hW1 x0 x1 x2 x3
      refine (apply_any (o := 0) (pre := []) (post := []) rfl (C5.out.blk HBK.out (fun h => h)) (HLG.out.chg C5.out (fun _ _ h => h)) (by have := Z0.out; omega) (HRW.out.chg C5.out (fun _ _ h => h)) HST.out (HRR.out r (List.mem_of_getElem? HRQ.out))).mono ?_
      rintro e w5 (⟨hg, rfl, h5⟩ | ⟨s2, A5, n5, c5, hg, rfl, hb, hat, h5⟩)
      · have G := hid (show betweenS a b = ([], 54) by rw [GB.out, applyAll_stop HAP.out HRQ.out hg])
        have CE := hid (show Chg (fun _ => False) w w5 from (((C0.out.trans C4.out (fun _ h _ => h)).trans (S := fun _ => False) HC.out (fun j hj hl => by omega)).trans C5.out (fun _ h _ => h)).trans h5 (fun _ h _ => h))
        clear hg h5
        go_wp2_with fail
        go_ret2
        exact ⟨none, 0, 0, by rw [G.out]; rfl, by rw [G.out]; exact at_nil_ _ _ _, CE.out⟩
      · have GA := hid (show applyAll a (L.take (q + 1)) = some s2 by rw [applyAll_snoc HAP.out HRQ.out, hg])
        have GS := hid (applyS_right HST.out (HRR.out r (List.mem_of_getElem? HRQ.out)) hg)
        have GB2 := hid hb
        have GL := hid (hat.mono (S' := fun k => w0.heap.size ≤ k) (fun j hj => by
          have z := Z0.out
          have y1 := C4.out.size
          have y2 := HC.out.size
          have y3 := C5.out.size
          rcases hj.1 with h | h
          · exact h
          · omega))
        have GC := hid (show Chg (fun k => k = w.heap.size) w4 w5 from (HC.out.trans (C5.out.mono (fun _ h _ => h.elim)) (fun _ h _ => h)).trans h5 (fun _ h _ => h))
        clear hg h5 hb hat
        go_wp2_with fail
        go_roundw
        case measure => simp [intOf]; omega
        case rel => first | exact ⟨q + 1, s2, A5, n5, c5, hlt, by go_num, GA.out, GS.out, GB2.out, GL.out, GC.out⟩ | ((repeat apply Exists.intro); exact ⟨⟨q + 1, s2, A5, n5, c5, hlt, by go_num, GA.out, GS.out, GB2.out, GL.out, GC.out⟩, rfl⟩)
    · have hqn : ¬ (q : Int) < (N : Int) := by omega
      obtain rfl : q = N := by omega
      have G := hid (show betweenS a b = (L, 0) by
        have h1 := HAP.out
        rw [List.take_of_length_le (by have := HN.out; omega)] at h1
        rw [GB.out, h1])
      go_wp2_with fail
      go_ret2
      have HE : Ty.At recK wr (fun k => w.heap.size ≤ k ∧ k < wr.heap.size) A9 q c9 L := (HAT.out.chg HC.out (fun j hj e => by have h1 := hj.1; have h2 := Z0.out; omega)).mono (fun j hj => by
        have z := Z0.out
        have y := C4.out.size
        have y3 := C3.out.size
        have y2 := HC.out.size
        have h1 := hj.1
        have h2 := hj.2
        have h5 := C34.out
        omega)
      exact ⟨A9, q, c9, by rw [G.out]; rfl, by rw [G.out]; exact HE, (C0.out.trans C4.out (fun _ h _ => h)).trans HC.out (fun j hj hl => by omega)⟩
end Go.Proofs.Ytfpjickdkkhndaa.Pa


/- A ledger in memory, and the contract of State. -/

namespace Go.Proofs.Ytfpjickdkkhndaa.Pa

set_option linter.unusedVariables false

set_option linter.unusedSimpArgs false

open Go.RowKit Go.Proofs.Ytfpjickdkkhndaa.C

attribute [local go_sem] max2_int min2_int max_two min_two

open Go.Proofs.Ytfpjickdkkhndaa.T in
theorem tape_core {w : World} {S : Nat → Prop} {g : Nat} {v : Value} {t : TS} (h : TapeAt w S g v t) : TapeAt w (fun k => k = g ∨ v.ownBlock = some k) g v t := ⟨.inl rfl, h.blk, h.row, fun k hk => .inr hk⟩
open Go.Proofs.Ytfpjickdkkhndaa.T in
theorem tape_in {w : World} {S : Nat → Prop} {g : Nat} {v : Value} {t : TS} (h : TapeAt w S g v t) : ∀ k, (k = g ∨ v.ownBlock = some k) → S k := fun k hk => by rcases hk with rfl | hk; exact h.inS; exact h.rowS k hk
open Go.Proofs.Ytfpjickdkkhndaa.T in

/-- A ledger at block p, over the tape at block g; all its blocks are in S. -/
structure LedAt (w : World) (S : Nat → Prop) (p g : Nat) (v : Value) (T : TS) (s : St) (br : Bool) (A : Option Addr) (n c : Nat) : Prop where
  inS : S p
  blk : w.heap[p]? = some (.cells (stRow [.pointer (some ⟨g, 0, none⟩)] [.bool br] s A n c) 74 (0, 0))
  tape : TapeAt w (fun k => k = g ∨ v.ownBlock = some k) g v T
  tapeS : ∀ k, (k = g ∨ v.ownBlock = some k) → S k ∧ k ≠ p
  log : Ty.At entryK w (fun k => S k ∧ k ≠ p ∧ k ≠ g ∧ v.ownBlock ≠ some k) A n c s.log
  right : stR s = true
theorem LedAt.chg {w w' : World} {S M : Nat → Prop} {p g : Nat} {v : Value} {T : T.TS} {s : St} {br : Bool} {A : Option Addr} {n c : Nat} (h : LedAt w S p g v T s br A n c) (hc : Chg M w w') (hM : ∀ k, S k → ¬ M k) : LedAt w' S p g v T s br A n c :=
  ⟨h.inS, hc.blk h.blk (hM _ h.inS), h.tape.chg hc (fun k hk => hM k (h.tapeS k hk).1), h.tapeS, h.log.chg hc (fun k hk => hM k hk.1), h.right⟩
theorem LedAt.mono {w : World} {S S' : Nat → Prop} {p g : Nat} {v : Value} {T : T.TS} {s : St} {br : Bool} {A : Option Addr} {n c : Nat} (h : LedAt w S p g v T s br A n c) (hS : ∀ k, k < w.heap.size → S k → S' k) : LedAt w S' p g v T s br A n c :=
  ⟨hS _ (lt_of_blk h.blk) h.inS, h.blk, h.tape, fun k hk => ⟨hS k (by rcases hk with e | e; exact e ▸ lt_of_blk h.tape.blk; exact own_lt h.tape.row k e) (h.tapeS k hk).1, (h.tapeS k hk).2⟩, h.log.bound.mono (fun k hk => ⟨hS k hk.2 hk.1.1, hk.1.2⟩), h.right⟩
def StateTo (s : St) (w : World) (e' : Ending) (w' : World) : Prop :=
  ∃ A' n' c', e' = .returned (.agg #[.int .i64 s.view, .int .i64 s.normal, .int .i64 s.commit, .int .i64 s.active, .slice A' n' c']) ∧ Ty.At entryK w' (fun k => w.heap.size ≤ k ∧ k < w'.heap.size) A' n' c' s.log ∧ Chg (fun _ => False) w w'
set_option maxHeartbeats 4000000 in
set_option maxRecDepth 100000 in
theorem State_any {w : World} {S : Nat → Prop} {p g : Nat} {v : Value} {T : T.TS} {s : St} {br : Bool} {A : Option Addr} {n c : Nat} (h : LedAt w S p g v T s br A n c) :
    Calls Try.prog 11 #[.pointer (some ⟨p, 0, none⟩)] w (StateTo s w) := by
  obtain ⟨b2, hb2⟩ : ∃ x, x = w.heap.size + 1 := ⟨_, rfl⟩
  obtain ⟨w0, hw0⟩ : ∃ x, x = ((w.alloc (.cells #[.int .i64 0, .int .i64 0, .int .i64 0, .int .i64 0, .slice none 0 0] 32)).alloc (.cells #[.int .i64 s.view, .int .i64 s.normal, .int .i64 s.commit, .int .i64 s.active, .slice A n c] 32)) := ⟨_, rfl⟩
  have C0 := hid (show Chg (fun _ => False) w w0 by rw [hw0]; exact ((Chg.refl _ w).alloc _).alloc _)
  have BR := hid (show w0.heap[w.heap.size]? = some (.cells #[.int .i64 0, .int .i64 0, .int .i64 0, .int .i64 0, .slice none 0 0] 32 (0, 0)) by
    rw [hw0]
    refine blk_alloc ?_ _
    have := blk_new w (.cells #[.int .i64 0, .int .i64 0, .int .i64 0, .int .i64 0, .slice none 0 0] 32)
    simpa using this)
  have BS := hid (show w0.heap[b2]? = some (.cells #[.int .i64 s.view, .int .i64 s.normal, .int .i64 s.commit, .int .i64 s.active, .slice A n c] 32 (0, 0)) by
    rw [hw0, hb2]
    have := blk_new (w.alloc (.cells #[.int .i64 0, .int .i64 0, .int .i64 0, .int .i64 0, .slice none 0 0] 32)) (.cells #[.int .i64 s.view, .int .i64 s.normal, .int .i64 s.commit, .int .i64 s.active, .slice A n c] 32)
    simpa using this)
  have ne01 : w.heap.size ≠ b2 := by omega
  have ne10 : b2 ≠ w.heap.size := by omega
  have Hb2 := hid hb2
  have ltb2 : w.heap.size < b2 := by omega
  have SZ := hid (show w0.heap.size = w.heap.size + 2 by rw [hw0]; simp)
  have HP := hid (C0.out.blk h.blk (fun h => h))
  have HL := hid (h.log.chg C0.out (fun _ _ h => h))
  have HS := hid h.right
  have hpw := lt_of_blk h.blk
  have hp1 : p ≠ w.heap.size := by omega
  have hp2 : p ≠ b2 := by omega
  have P_1 : w.cell? ⟨p, 1, none⟩ = some (.int .i64 s.view) := (cellAt h.blk 1).trans rfl
  have P_2 : w.cell? ⟨p, 2, none⟩ = some (.int .i64 s.normal) := (cellAt h.blk 2).trans rfl
  have P_3 : w.cell? ⟨p, 3, none⟩ = some (.int .i64 s.commit) := (cellAt h.blk 3).trans rfl
  have P_4 : w.cell? ⟨p, 4, none⟩ = some (.int .i64 s.active) := (cellAt h.blk 4).trans rfl
  have P_5 : w.cell? ⟨p, 5, none⟩ = some (.slice A n c) := (cellAt h.blk 5).trans rfl
  clear h
  go_enter Try.func11, Try.ntmps11
  go_wp2_with fail
  rw [← hb2, ← hw0]
  clear hw0 hb2
  clear P_1 P_2 P_3 P_4 P_5
  refine (copied_any HL.out (by have h1 := (stR_iff.1 HS.out).1; have h2 := HL.out.1; omega) (fits_right (stR_iff.1 HS.out).2)).mono ?_
  rintro e w2 ⟨A2, c2, rfl, hat, h2⟩
  have C2 := hid (C0.out.trans h2 (fun _ h _ => h))
  have H2 := hid hat
  have Z2 := hid (show w0.heap.size ≤ w2.heap.size from h2.size)
  replace BR := hid ((h2).blk BR.out (fun h => h))
  replace BS := hid ((h2).blk BS.out (fun h => h))
  clear h2 hat
  have S_0 : w2.cell? ⟨b2, 0, none⟩ = some (.int .i64 s.view) := (cellAt BS.out 0).trans rfl
  have S_f0 : w2.frozen? ⟨b2, 0, none⟩ = false := freeAt BS.out 0
  have S_1 : w2.cell? ⟨b2, 1, none⟩ = some (.int .i64 s.normal) := (cellAt BS.out 1).trans rfl
  have S_f1 : w2.frozen? ⟨b2, 1, none⟩ = false := freeAt BS.out 1
  have S_2 : w2.cell? ⟨b2, 2, none⟩ = some (.int .i64 s.commit) := (cellAt BS.out 2).trans rfl
  have S_f2 : w2.frozen? ⟨b2, 2, none⟩ = false := freeAt BS.out 2
  have S_3 : w2.cell? ⟨b2, 3, none⟩ = some (.int .i64 s.active) := (cellAt BS.out 3).trans rfl
  have S_f3 : w2.frozen? ⟨b2, 3, none⟩ = false := freeAt BS.out 3
  have S_4 : w2.cell? ⟨b2, 4, none⟩ = some (.slice A n c) := (cellAt BS.out 4).trans rfl
  have S_f4 : w2.frozen? ⟨b2, 4, none⟩ = false := freeAt BS.out 4
  have R_0 : w2.cell? ⟨w.heap.size, 0, none⟩ = some (.int .i64 0) := (cellAt BR.out 0).trans rfl
  have R_f0 : w2.frozen? ⟨w.heap.size, 0, none⟩ = false := freeAt BR.out 0
  have R_1 : w2.cell? ⟨w.heap.size, 1, none⟩ = some (.int .i64 0) := (cellAt BR.out 1).trans rfl
  have R_f1 : w2.frozen? ⟨w.heap.size, 1, none⟩ = false := freeAt BR.out 1
  have R_2 : w2.cell? ⟨w.heap.size, 2, none⟩ = some (.int .i64 0) := (cellAt BR.out 2).trans rfl
  have R_f2 : w2.frozen? ⟨w.heap.size, 2, none⟩ = false := freeAt BR.out 2
  have R_3 : w2.cell? ⟨w.heap.size, 3, none⟩ = some (.int .i64 0) := (cellAt BR.out 3).trans rfl
  have R_f3 : w2.frozen? ⟨w.heap.size, 3, none⟩ = false := freeAt BR.out 3
  have R_4 : w2.cell? ⟨w.heap.size, 4, none⟩ = some (.slice none 0 0) := (cellAt BR.out 4).trans rfl
  have R_f4 : w2.frozen? ⟨w.heap.size, 4, none⟩ = false := freeAt BR.out 4
  obtain ⟨W2, hW2⟩ : ∃ W2, W2 = w2.setCell ⟨b2, 4, none⟩ (.slice A2 n c2) := ⟨_, rfl⟩
  have D2 := hid (show Chg (fun k => k = b2) w2 W2 by rw [hW2]; exact (Chg.refl (fun k => k = b2) w2).set (fun _ => rfl) _)
  have HW2 := hid hW2
  clear hW2
  go_wp2_with fail
  rw [← HW2.out]
  clear HW2
  clear S_0 S_f0 S_1 S_f1 S_2 S_f2 S_3 S_f3 S_4 S_f4 R_0 R_f0 R_1 R_f1 R_2 R_f2 R_3 R_f3 R_4 R_f4
  replace BR := hid (D2.out.blk BR.out (by omega))
  obtain ⟨PB, PC⟩ := put_blk [(.int .i64 s.view : Value), .int .i64 s.normal, .int .i64 s.commit, .int .i64 s.active, .slice A2 n c2] W2 _ BR.out rfl
  generalize hW : (((((W2.setCell ⟨w.heap.size, 0, none⟩ (.int .i64 s.view)).setCell ⟨w.heap.size, 1, none⟩ (.int .i64 s.normal)).setCell ⟨w.heap.size, 2, none⟩ (.int .i64 s.commit)).setCell ⟨w.heap.size, 3, none⟩ (.int .i64 s.active)).setCell ⟨w.heap.size, 4, none⟩ (.slice A2 n c2)) = W
  have BR2 := hid (show W.heap[w.heap.size]? = some (.cells #[.int .i64 s.view, .int .i64 s.normal, .int .i64 s.commit, .int .i64 s.active, .slice A2 n c2] 32 (0, 0)) by rw [← hW]; exact PB)
  have CW := hid (show Chg (fun k => k = w.heap.size) W2 W by rw [← hW]; exact PC)
  clear PB PC hW
  have z0 : W.cell? ⟨w.heap.size, 0, none⟩ = some (.int .i64 s.view) := (cellAt BR2.out 0).trans rfl
  have z1 : W.cell? ⟨w.heap.size, 1, none⟩ = some (.int .i64 s.normal) := (cellAt BR2.out 1).trans rfl
  have z2 : W.cell? ⟨w.heap.size, 2, none⟩ = some (.int .i64 s.commit) := (cellAt BR2.out 2).trans rfl
  have z3 : W.cell? ⟨w.heap.size, 3, none⟩ = some (.int .i64 s.active) := (cellAt BR2.out 3).trans rfl
  have z4 : W.cell? ⟨w.heap.size, 4, none⟩ = some (.slice A2 n c2) := (cellAt BR2.out 4).trans rfl
  refine bodyPost_ret (v := .agg #[.int .i64 s.view, .int .i64 s.normal, .int .i64 s.commit, .int .i64 s.active, .slice A2 n c2]) (by simp [results, Try.results11, go_sem, z0, z1, z2, z3, z4]) rfl ?_
  have HE : Ty.At entryK W (fun k => w.heap.size ≤ k ∧ k < W.heap.size) A2 n c2 s.log := by
    have z := SZ.out
    have z2 := Z2.out
    have hb := Hb2.out
    refine ((H2.out.chg D2.out (fun j hj e => by have := hj.1; omega)).chg CW.out (fun j hj e => by have := hj.1; omega)).mono (fun j hj => ⟨by have := hj.1; omega, Nat.lt_of_lt_of_le hj.2 (Nat.le_trans D2.out.size CW.out.size)⟩)
  exact ⟨A2, n, c2, rfl, HE, (C2.out.trans D2.out (fun j hj hl => by have := Hb2.out; omega)).trans CW.out (fun j hj hl => by omega)⟩
end Go.Proofs.Ytfpjickdkkhndaa.Pa


/- The contract of Open. -/

namespace Go.Proofs.Ytfpjickdkkhndaa.Pa

set_option linter.unusedVariables false

set_option linter.unusedSimpArgs false

open Go.RowKit Go.Proofs.Ytfpjickdkkhndaa.C

attribute [local go_sem] max2_int min2_int max_two min_two

open Go.Proofs.Ytfpjickdkkhndaa.T in

/-- What opening does to the tape: what can't be read is trimmed off. -/
def openT (T : TS) : TS × Int := if (rd13 st0 T.b).2 < T.b.length then T.trim (rd13 st0 T.b).2 else (T, 0)
open Go.Proofs.Ytfpjickdkkhndaa.T in
def OpenTo (S : Nat → Prop) (g : Nat) (T : TS) (w : World) (e' : Ending) (w' : World) : Prop :=
  ((openT T).2 ≠ 0 ∧ e' = .returned (.tuple #[.pointer none, .int .i64 (openT T).2]) ∧ Upd S g (openT T).1 w w') ∨
  ((openT T).2 = 0 ∧ ∃ v' A' n' c', e' = .returned (.tuple #[.pointer (some ⟨w.heap.size, 0, none⟩), .int .i64 0]) ∧ LedAt w' (fun k => (S k ∧ k < w.heap.size) ∨ w.heap.size ≤ k) w.heap.size g v' (openT T).1 (rd13 st0 T.b).1 false A' n' c' ∧ Chg S w w')
/-- The loop's state: so many bytes are read, they tell this state. -/
def RdAt (b : List UInt8) (B p g : Nat) (w1 : World) (u : Nat) (s' : St) (wr : World) : Prop :=
  u ≤ b.length ∧ rd13 st0 b = ((rd13 s' (b.drop u)).1, u + (rd13 s' (b.drop u)).2) ∧ stR s' = true ∧
  ∃ A' n' c', wr.heap[p]? = some (.cells (stRow [.pointer (some ⟨g, 0, none⟩)] [.bool false] s' A' n' c') 74 (0, 0)) ∧ Ty.At entryK wr (fun k => B ≤ k ∧ k < wr.heap.size) A' n' c' s'.log ∧ Chg (fun k => k = p) w1 wr
def RdEnd (b : List UInt8) (B p g : Nat) (w1 : World) (v : Value) (wx : World) : Prop :=
  v = .int .i64 ((rd13 st0 b).2 : Int) ∧ ∃ A' n' c', wx.heap[p]? = some (.cells (stRow [.pointer (some ⟨g, 0, none⟩)] [.bool false] (rd13 st0 b).1 A' n' c') 74 (0, 0)) ∧ Ty.At entryK wx (fun k => B ≤ k ∧ k < wx.heap.size) A' n' c' (rd13 st0 b).1.log ∧ Chg (fun k => k = p) w1 wx
theorem Applied.ok {R : Nat → Prop} {q t : Nat} {pre post : List Value} {s : St} {r : Rec} {w : World} {e' : Ending} {w' : World} (h : Applied R q t pre post s r w e' w') :
    ∃ ok : Bool, e' = .returned (.bool ok) ∧ ((ok = false ∧ applyS s r = none ∧ Chg (fun _ => False) w w') ∨ (ok = true ∧ ∃ s' A' n' c', applyS s r = some s' ∧ w'.heap[q]? = some (.cells (stRow pre post s' A' n' c') t (0, 0)) ∧ Ty.At entryK w' (fun k => (R k ∨ w.heap.size ≤ k) ∧ k < w'.heap.size) A' n' c' s'.log ∧ Chg (fun k => k = q) w w')) := by
  rcases h with ⟨h1, h2, h3⟩ | ⟨s', A', n', c', h1, h2, h3⟩
  · exact ⟨false, h2, .inl ⟨rfl, h1, h3⟩⟩
  · exact ⟨true, h2, .inr ⟨rfl, s', A', n', c', h1, h3⟩⟩
set_option maxHeartbeats 4000000 in
set_option maxRecDepth 100000 in
theorem Open_any {w : World} {S : Nat → Prop} {g : Nat} {v : Value} {t : T.TS} (h : T.TapeAt w S g v t) (hok : t.Ok) :
    Calls Try.prog 10 #[.pointer (some ⟨g, 0, none⟩)] w (OpenTo S g t w) := by
  obtain ⟨w0, hw0⟩ : ∃ x, x = (w.alloc (.cells #[.pointer (some ⟨g, 0, none⟩), .int .i64 0, .int .i64 0, .int .i64 0, .int .i64 0, .slice none 0 0, .bool false] 74)) := ⟨_, rfl⟩
  have C0 := hid (show Chg (fun _ => False) w w0 by rw [hw0]; exact (Chg.refl _ w).alloc _)
  have BL := hid (show w0.heap[w.heap.size]? = some (.cells #[.pointer (some ⟨g, 0, none⟩), .int .i64 0, .int .i64 0, .int .i64 0, .int .i64 0, .slice none 0 0, .bool false] 74 (0, 0)) by
    rw [hw0]
    have := blk_new w (.cells #[.pointer (some ⟨g, 0, none⟩), .int .i64 0, .int .i64 0, .int .i64 0, .int .i64 0, .slice none 0 0, .bool false] 74)
    simpa using this)
  have SZ := hid (show w0.heap.size = w.heap.size + 1 by rw [hw0]; simp)
  have HT := hid (T.TapeAt.mono (S' := fun k => S k ∧ k < w.heap.size) h (fun k hk hs => ⟨hs, hk⟩))
  have HT0 := hid (HT.out.chg C0.out (fun _ _ h => h))
  have HOK := hid hok
  have hlen : t.b.length ≤ 1048576 := by have h1 := hok.r0; have h2 := hok.r1; omega
  obtain ⟨N, hN⟩ : ∃ N, N = t.b.length := ⟨_, rfl⟩
  rw [← hN] at hlen
  have HN := hid hN
  clear h hok hN
  go_enter Try.func10, Try.ntmps10
  go_wp2_with fail
  go_step3
  go_wp2_with fail
  rw [← hw0]
  clear hw0
  refine (T.bytes_any _ g v t w0 HT0.out (by have := HN.out; omega)).mono ?_
  rintro e w1 ⟨c5, rfl, hrow, h1⟩
  rw [← HN.out] at hrow ⊢
  obtain ⟨b1, hb1⟩ : ∃ x, x = w0.heap.size := ⟨_, rfl⟩
  rw [← hb1] at hrow ⊢
  have HB1 := hid (show b1 = w.heap.size + 1 by rw [hb1, SZ.out])
  have HBY := hid (show Ty.At Ty.u8 w1 (fun k => k = b1) (some ⟨b1, 0, none⟩) N c5 t.b from Fr.own_At hrow rfl |>.mono (fun k hk => by simp [Value.ownBlock] at hk; exact hk.symm))
  have H1 := hid h1
  have C1 := hid (C0.out.trans h1 (fun _ h _ => h))
  replace BL := hid ((h1).blk BL.out (fun h => h))
  have hb1w : b1 < w1.heap.size := by have := lt_of_blk BL.out; have h2 := own_lt hrow b1 (by simp [Value.ownBlock]); exact h2
  have ltb1 : w.heap.size < b1 := by have := HB1.out; omega
  clear h1 hrow hb1
  have hNi : (N : Int) ≤ 1048576 := by omega
  go_wp2_with fail
  go_step3
  have HRD0 := hid (show RdAt t.b w1.heap.size w.heap.size g w1 0 st0 w1 from ⟨Nat.zero_le _, by simp, stR0, none, 0, 0, BL.out, at_nil_ _ _ _, Chg.refl _ _⟩)
  go_upto_block 0 with fail
  go_cut [6] (fun s6 wx => RdEnd t.b w1.heap.size w.heap.size g w1 s6 wx)
  case first =>
    go_wp2_with fail
    go_loopw [6] (fun i wr => ∃ (u : Nat) (s' : St), i = .int .i64 u ∧ RdAt t.b w1.heap.size w.heap.size g w1 u s' wr) (fun i _ => N - (intOf i).toNat)
    case atStart => exact ⟨0, st0, rfl, HRD0.out⟩
    case round =>
      obtain ⟨u, s', rfl, hrd⟩ := hrel
      have HRD := hid hrd
      have huN : u ≤ N := by rw [HN.out]; exact hrd.1
      obtain ⟨_, _, _, A', n', c', hbk, hlg, hC⟩ := hrd
      have HBK := hid hbk
      have HLG := hid hlg
      have HC := hid hC
      clear hbk hlg hC
      by_cases hlt : u < N
      case neg =>
        have G := hid (show rd13 st0 t.b = (s', u) by
          have h1 := HRD.out.2.1
          rw [List.drop_eq_nil_of_le (by have := HN.out; omega), rd13_nil] at h1
          simpa using h1)
        have hlt2 : ¬ (u : Int) < (N : Int) := by omega
        clear hlt
        go_wp2_with fail
        go_meet
        exact ⟨by rw [G.out], A', n', c', by rw [G.out]; exact HBK.out, by rw [G.out]; exact HLG.out, HC.out⟩
      have hlt2 : (u : Int) < (N : Int) := by omega
      obtain ⟨m3, hm3⟩ : ∃ m, N - u = m := ⟨_, rfl⟩
      obtain ⟨A3, c3, cut3, at3⟩ := Ty.At.from_ (P := Try.prog) (d := Ty.u8) Try.underlying36 Fr.info5 (some ⟨b1, 0, none⟩) N c5 u m3 (u : Int) rfl huN hm3
      have AT3 := hid (at3 wr _ _ (HBY.out.chg HC.out (fun j hj e => by omega)))
      have HM3 := hid hm3
      clear at3 hm3
      obtain ⟨bb, hbb⟩ : ∃ x, x = t.b.drop u := ⟨_, rfl⟩
      rw [← hbb] at AT3
      have HBB := hid hbb
      have HEQ := hid (show rd13 st0 t.b = ((rd13 s' bb).1, u + (rd13 s' bb).2) by rw [hbb]; exact HRD.out.2.1)
      clear hbb
      go_wp2_with fail
      refine (Fr.read_any _ _ _ _ _ _ AT3.out).mono ?_
      rintro e w2 ⟨A2, c2, rfl, hmd⟩
      obtain ⟨hrow, hc2, hnew⟩ := hmd
      obtain ⟨e0, he0⟩ : ∃ x, x = (FrameP.read bb).1 := ⟨_, rfl⟩
      obtain ⟨body, hbody⟩ : ∃ x, x = (FrameP.read bb).2 := ⟨_, rfl⟩
      rw [← hbody] at hrow hnew
      rw [← he0, ← hbody]
      have hr : FrameP.read bb = (e0, body) := by rw [he0, hbody]
      clear he0 hbody
      obtain ⟨m, hm⟩ : ∃ m, m = body.length := ⟨_, rfl⟩
      rw [← hm] at hrow hnew ⊢
      obtain ⟨sz, hsz⟩ : ∃ x, x = Fr.sizeOf bb := ⟨_, rfl⟩
      rw [← hsz]
      have HSZ := hid hsz
      have HR := hid hr
      have HM := hid hm
      have HC2 := hid hc2
      have HB2 := hid (show Ty.At Ty.u8 w2 (fun k => wr.heap.size ≤ k ∧ k < w2.heap.size) A2 m c2 body from (Fr.own_At hrow rfl).bound.mono (fun k hk => ⟨hnew k hk.1, hk.2⟩))
      have HBK2 := hid (hc2.blk HBK.out (fun h => h))
      have HLG2 := hid (HLG.out.chg hc2 (fun _ _ h => h))
      clear cut3 hrow hnew hsz hr hm hc2
      by_cases he : e0 = 0
      case neg =>
        have he' : ((e0 : Int) != 0) = true := by simp [he]
        have G := hid (show rd13 st0 t.b = (s', u) by rw [HEQ.out, rd13_err HR.out he]; rfl)
        clear he
        go_wp2_with fail
        go_meet
        exact ⟨by rw [G.out], A', n', c', by rw [G.out]; exact HBK2.out, by rw [G.out]; exact HLG2.out.mono (fun j hj => ⟨hj.1, Nat.lt_of_lt_of_le hj.2 HC2.out.size⟩), HC.out.trans (HC2.out.mono (fun _ h _ => h.elim)) (fun _ h _ => h)⟩
      subst he
      have hrl := FrameP.read_len HR.out
      have HRL := hid (show sz = 10 + m ∧ u + (10 + m) ≤ N ∧ m ≤ 65536 by
        have h1 : bb.length = N - u := by rw [HBB.out, List.length_drop, ← HN.out]
        have h2 : sz = 10 + m := by rw [HSZ.out, HM.out]; unfold Fr.sizeOf; rw [HR.out, if_pos rfl]
        have h3 := HM.out
        omega)
      clear hrl
      have hm6 : m ≤ 1000000 := by have := HRL.out; omega
      go_wp2_with fail
      refine (decoderec_any HB2.out hm6).mono ?_
      rintro e w3 ⟨h3, hd⟩
      have HC3 := hid (HC2.out.trans h3 (fun _ h _ => h))
      have HBK3 := hid (h3.blk HBK2.out (fun h => h))
      have HLG3 := hid (HLG2.out.chg h3 (fun _ _ h => h))
      have HP3 := hid (show w.heap.size < w3.heap.size from lt_of_blk HBK3.out)
      clear h3
      rcases hd with ⟨hp, rfl⟩ | ⟨mr, A4, n4, c4, hp, rfl, hwf, hlog⟩
      · have G := hid (show rd13 st0 t.b = (s', u) by rw [HEQ.out, rd13_no HR.out (by rw [hp]; rfl)]; rfl)
        obtain ⟨w4, hw4⟩ : ∃ W, W = w3.alloc (.cells #[.int .i64 0, .int .i64 0, .int .i64 0, .slice none 0 0] 62) := ⟨_, rfl⟩
        have C4 := hid (show Chg (fun _ => False) w3 w4 by rw [hw4]; exact (Chg.refl _ w3).alloc _)
        have hw4' := hid hw4
        clear hp hw4
        go_wp2_with fail
        rw [← hw4'.out]
        clear hw4'
        go_region
        go_wp2_with fail
        go_meet
        have CE := HC3.out.trans (C4.out.drew) (fun _ h _ => h)
        exact ⟨by rw [G.out], A', n', c', by rw [G.out]; exact (C4.out.drew).blk HBK3.out (fun h => h), by rw [G.out]; exact (HLG3.out.chg (C4.out.drew) (fun _ _ h => h)).mono (fun j hj => ⟨hj.1, Nat.lt_of_lt_of_le hj.2 CE.size⟩), HC.out.trans (CE.mono (fun _ h _ => h.elim)) (fun _ h _ => h)⟩
      have HPR := hid hp
      have HRR := hid (parseRec_back hp).2.1
      have HLR := hid (hlog.bound)
      clear hp hwf hlog
      obtain ⟨w4, hw4⟩ : ∃ W, W = w3.alloc (.cells #[.int .i64 mr.kind, .int .i64 mr.a, .int .i64 mr.b, .slice A4 n4 c4] 62) := ⟨_, rfl⟩
      have C4 := hid (show Chg (fun _ => False) w3 w4 by rw [hw4]; exact (Chg.refl _ w3).alloc _)
      have BR := hid (show w4.heap[w3.heap.size]? = some (.cells #[.int .i64 mr.kind, .int .i64 mr.a, .int .i64 mr.b, .slice A4 n4 c4] 62 (0, 0)) by rw [hw4]; exact blk_new w3 _)
      have HBK4 := hid (C4.out.blk HBK3.out (fun h => h))
      have hw4' := hid hw4
      clear hw4
      go_wp2_with fail
      rw [← hw4'.out]
      clear hw4'
      have r0 : ∀ wx, Chg (fun k => k = w.heap.size) w4 wx → wx.cell? ⟨w3.heap.size, 0, none⟩ = some (.int .i64 mr.kind) := fun wx hx => (cellAt (hx.blk BR.out (by have := HP3.out; omega)) 0).trans rfl
      have r1 : ∀ wx, Chg (fun k => k = w.heap.size) w4 wx → wx.cell? ⟨w3.heap.size, 1, none⟩ = some (.int .i64 mr.a) := fun wx hx => (cellAt (hx.blk BR.out (by have := HP3.out; omega)) 1).trans rfl
      have r2 : ∀ wx, Chg (fun k => k = w.heap.size) w4 wx → wx.cell? ⟨w3.heap.size, 2, none⟩ = some (.int .i64 mr.b) := fun wx hx => (cellAt (hx.blk BR.out (by have := HP3.out; omega)) 2).trans rfl
      have r3 : ∀ wx, Chg (fun k => k = w.heap.size) w4 wx → wx.cell? ⟨w3.heap.size, 3, none⟩ = some (.slice A4 n4 c4) := fun wx hx => (cellAt (hx.blk BR.out (by have := HP3.out; omega)) 3).trans rfl
      refine wpB_start (fun wx : World => Chg (fun k => k = w.heap.size) w4 wx) (by kernel_rfl) ?_
      have hHeld : (fun wx : World => Chg (fun k => k = w.heap.size) w4 wx) _ := (Chg.refl (fun k => k = w.heap.size) w4).drew
      -- 0: t36 := move t9 : 27
      refine wpB_take (i := 0) (v := ?_) (get_of_drop rfl) (by kernel_rfl) (by kernel_rfl) (by kernel_rfl) (by kernel_rfl) (fun _ _ _ h => h) (Or.inl ⟨by rfl, ?_⟩) hHeld ?_
      rotate_left
      · (intro w hSw; (try dsimp only at hSw); go_simp <;> with_reducible rfl)
      try simp only [Act.put, List.setIfInBounds_toArray, List.set_cons_zero, List.set_cons_succ]
      -- 1: t37 := binOp BinOp.neq 27 t36 #i64:0 27 : 4
      refine wpB_take (i := 1) (v := ?_) (get_of_drop rfl) (by kernel_rfl) (by kernel_rfl) (by kernel_rfl) (by kernel_rfl) (fun _ _ _ h => h) (Or.inl ⟨by rfl, ?_⟩) hHeld ?_
      rotate_left
      · (intro w hSw; (try dsimp only at hSw); go_simp <;> with_reducible rfl)
      try simp only [Act.put, List.setIfInBounds_toArray, List.set_cons_zero, List.set_cons_succ]
      -- 2: t38 := move t37 : 4
      refine wpB_take (i := 2) (v := ?_) (get_of_drop rfl) (by kernel_rfl) (by kernel_rfl) (by kernel_rfl) (by kernel_rfl) (fun _ _ _ h => h) (Or.inl ⟨by rfl, ?_⟩) hHeld ?_
      rotate_left
      · (intro w hSw; (try dsimp only at hSw); go_simp <;> with_reducible rfl)
      try simp only [Act.put, List.setIfInBounds_toArray, List.set_cons_zero, List.set_cons_succ]
      -- 3: t39 := move t4 : 26   [if ⟨2, false⟩]
      refine wpB_take (i := 3) (v := ?_) (get_of_drop rfl) (by kernel_rfl) (by kernel_rfl) (by kernel_rfl) (by kernel_rfl) (fun _ _ _ h => h) (Or.inl ⟨by rfl, ?_⟩) hHeld ?_
      rotate_left
      · (intro w hSw; (try dsimp only at hSw); go_simp <;> with_reducible rfl)
      try simp only [Act.put, List.setIfInBounds_toArray, List.set_cons_zero, List.set_cons_succ]
      -- 4: t40 := nilCheck t39 : 0   [if ⟨2, false⟩]
      refine wpB_take (i := 4) (v := ?_) (get_of_drop rfl) (by kernel_rfl) (by kernel_rfl) (by kernel_rfl) (by kernel_rfl) (fun _ _ _ h => h) (Or.inl ⟨by rfl, ?_⟩) hHeld ?_
      rotate_left
      · (intro w hSw; (try dsimp only at hSw); go_simp <;> with_reducible rfl)
      try simp only [Act.put, List.setIfInBounds_toArray, List.set_cons_zero, List.set_cons_succ]
      -- 5: t41 := fieldAddr 74 t40 1 : 0   [if ⟨2, false⟩]
      refine wpB_take (i := 5) (v := ?_) (get_of_drop rfl) (by kernel_rfl) (by kernel_rfl) (by kernel_rfl) (by kernel_rfl) (fun _ _ _ h => h) (Or.inl ⟨by rfl, ?_⟩) hHeld ?_
      rotate_left
      · (intro w hSw; (try dsimp only at hSw); go_simp <;> with_reducible rfl)
      try simp only [Act.put, List.setIfInBounds_toArray, List.set_cons_zero, List.set_cons_succ]
      -- 6: t42 := load 62 t10 : 62   [if ⟨2, false⟩]
      refine wpB_take (i := 6) (v := ?_) (get_of_drop rfl) (by kernel_rfl) (by kernel_rfl) (by kernel_rfl) (by kernel_rfl) (fun _ _ _ h => h) (Or.inl ⟨by rfl, ?_⟩) hHeld ?_
      rotate_left
      · (intro w hSw; (try dsimp only at hSw); go_simp <;> with_reducible rfl)
      try simp only [Act.put, List.setIfInBounds_toArray, List.set_cons_zero, List.set_cons_succ]
      -- 7: t43 := CALL fn32(t41, t42) : 4   [if ⟨2, false⟩]
      refine wpB_act (i := 7) (by kernel_rfl) (get_of_drop rfl) (fun K hK => ?_)
      go_simp
      refine (apply_any (o := 1) (pre := [.pointer (some ⟨g, 0, none⟩)]) (post := [.bool false]) rfl (show w4.drew.heap[w.heap.size]? = _ from HBK4.out) ((HLG3.out.chg C4.out (fun _ _ h => h)).chg (Chg.refl (fun _ => False) w4).drew (fun _ _ h => h)) (by have := lt_of_blk BL.out; omega) (((HLR.out.chg C4.out (fun _ _ h => h))).chg (Chg.refl (fun _ => False) w4).drew (fun _ _ h => h)) HRD.out.2.2.1 HRR.out).mono ?_
      intro e wy hap0
      obtain ⟨ok, rfl, hap⟩ := hap0.ok
      clear hap0
      have HAP := hid hap
      have HZ := hid (show Chg (fun k => k = w.heap.size) w4 wy from (Chg.refl (fun k => k = w.heap.size) w4).drew.trans (by rcases hap with ⟨_, _, h⟩ | ⟨_, _, _, _, _, _, _, _, h⟩; exact h.mono (fun _ h _ => h.elim); exact h) (fun _ h _ => h))
      clear hap
      refine hK.out _ _ ?_ (fun hHeld2 => ?_)
      · (first | assumption | (with_reducible exact HZ.out))
      clear hHeld hK K
      have hHeld := hHeld2
      clear hHeld2
      try simp only [Act.put, List.setIfInBounds_toArray, List.set_cons_zero, List.set_cons_succ]
      -- 8: t44 := unOp UnOp.not 4 t43 : 4   [if ⟨2, false⟩]
      refine wpB_take (i := 8) (v := ?_) (get_of_drop rfl) (by kernel_rfl) (by kernel_rfl) (by kernel_rfl) (by kernel_rfl) (fun _ _ _ h => h) (Or.inl ⟨by rfl, ?_⟩) hHeld ?_
      rotate_left
      · (intro w hSw; (try dsimp only at hSw); go_simp <;> with_reducible rfl)
      try simp only [Act.put, List.setIfInBounds_toArray, List.set_cons_zero, List.set_cons_succ]
      -- 9: t45 := pick t38 #true t44 : 4
      refine wpB_take (i := 9) (v := ?_) (get_of_drop rfl) (by kernel_rfl) (by kernel_rfl) (by kernel_rfl) (by kernel_rfl) (fun _ _ _ h => h) (Or.inl ⟨by rfl, ?_⟩) hHeld ?_
      rotate_left
      · (intro w hSw; (try dsimp only at hSw); go_simp <;> with_reducible rfl)
      try simp only [Act.put, List.setIfInBounds_toArray, List.set_cons_zero, List.set_cons_succ]
      refine wpB_done (by kernel_rfl) ?_ _
      clear hHeld r0 r1 r2 r3
      have CE := hid (show Chg (fun k => k = w.heap.size) w1 wy from (HC.out.trans ((HC3.out.trans C4.out (fun _ h _ => h)).mono (fun _ h _ => h.elim)) (fun _ h _ => h)).trans HZ.out (fun _ h _ => h))
      rcases HAP.out with ⟨rfl, hap, hcy⟩ | ⟨rfl, s2, A5, n5, c5', hap, hb, hat, hcy⟩
      · have G := hid (show rd13 st0 t.b = (s', u) by rw [HEQ.out, rd13_no HR.out (by rw [HPR.out]; exact hap)]; rfl)
        have QB := hid (show wy.heap[w.heap.size]? = _ from hcy.blk (show w4.drew.heap[w.heap.size]? = _ from HBK4.out) (fun h => h))
        have QL := hid ((((HLG3.out.chg C4.out (fun _ _ h => h)).chg (Chg.refl (fun _ => False) w4).drew (fun _ _ h => h)).chg hcy (fun _ _ h => h)).bound)
        clear HAP hap hcy
        go_wp2_with fail
        go_meet
        exact ⟨by rw [G.out], A', n', c', by rw [G.out]; exact QB.out, by rw [G.out]; exact QL.out.mono (fun j hj => ⟨hj.1.1, hj.2⟩), CE.out⟩
      · have HUP := hid (show u + sz ≤ t.b.length by have h1 := HRL.out; have h2 := HN.out; omega)
        have HAT := hid (show rd13 st0 t.b = ((rd13 s2 (t.b.drop (u + sz))).1, u + sz + (rd13 s2 (t.b.drop (u + sz))).2) by
          rw [HEQ.out, rd13_ok HR.out (by rw [HPR.out]; exact hap), ← HM.out, ← HRL.out.1, HBB.out, List.drop_drop, Nat.add_assoc])
        have HST := hid (applyS_right HRD.out.2.2.1 HRR.out hap)
        have QB := hid hb
        have QL := hid (show Ty.At entryK wy (fun k => w1.heap.size ≤ k ∧ k < wy.heap.size) A5 n5 c5' s2.log from hat.mono (fun j hj => ⟨by
          have z := HC.out.size
          have y := HC3.out.size
          have y2 := C4.out.size
          rcases hj.1 with h | h
          · exact h.1
          · have h2 : w4.heap.size ≤ j := h; omega, hj.2⟩))
        have hsum : u + sz ≤ 1048576 := by have h1 := HRL.out; omega
        have hsz1 : u < u + sz := by have h1 := HRL.out; omega
        have hszN : u + sz ≤ N := by have h1 := HRL.out; omega
        clear HAP hap hcy hb hat
        go_wp2_with fail
        go_roundw
        case measure => simp [intOf]; omega
        case rel => first | exact ⟨u + sz, s2, by go_num, HUP.out, HAT.out, HST.out, A5, n5, c5', QB.out, QL.out, CE.out⟩ | ((repeat apply Exists.intro); exact ⟨⟨u + sz, s2, by go_num, HUP.out, HAT.out, HST.out, A5, n5, c5', QB.out, QL.out, CE.out⟩, rfl⟩)
  case rest =>
  obtain ⟨rfl, A', n', c', hbk, hlg, hC⟩ := hcut
  revert wc
  intro wx hbk hlg hC
  obtain ⟨us, hus⟩ : ∃ x, x = (rd13 st0 t.b).2 := ⟨_, rfl⟩
  rw [← hus]
  have HUS := hid hus
  have husN : us ≤ N := by rw [hus, HN.out]; exact rd13_le _ _
  have HBK := hid hbk
  have HLG := hid hlg
  have HC := hid hC
  have HP1 := hid (lt_of_blk BL.out)
  have HTX := hid ((HT.out.chg C1.out (fun _ _ h => h)).chg hC (fun k hk e => by have := hk.2; omega))
  clear hus hbk hlg hC
  by_cases hu : us < N
  case neg =>
    have hu2 : ¬ (us : Int) < (N : Int) := by omega
    have G := hid (show openT t = (t, 0) by unfold openT; rw [← HUS.out, ← HN.out, if_neg hu])
    clear hu
    go_wp2_with fail
    go_ret2
    refine .inr ⟨by rw [G.out], v, A', n', c', rfl, ?_, (C1.out.mono (fun _ h _ => h.elim)).trans HC.out (fun k e hl => by omega)⟩
    rw [G.out]
    refine ⟨.inr (Nat.le_refl _), HBK.out, tape_core HTX.out, fun k hk => by have hs := tape_in HTX.out k hk; exact ⟨.inl hs, by have := hs.2; omega⟩, HLG.out.mono (fun k hk => ?_), rd13_right _ _ stR0⟩
    have h1 := HP1.out
    have h2 := hk.1
    exact ⟨.inr (by omega), by omega, fun e => by have h3 := HTX.out.inS.2; omega, fun e => by have h3 := (HTX.out.rowS k e).2; omega⟩
  have hu2 : (us : Int) < (N : Int) := by omega
  have G := hid (show openT t = t.trim us by unfold openT; rw [← HUS.out, ← HN.out, if_pos hu])
  clear hu
  go_wp2_with fail
  refine (T.trim_any _ g v t (us : Int) wx HTX.out HOK.out).mono ?_
  rintro e w5 ⟨rfl, v5, ht5, hc5⟩
  have HT5 := hid ht5
  have HC5 := hid hc5
  clear ht5 hc5
  obtain ⟨cd, hcd⟩ : ∃ x, x = (t.trim (us : Int)).2 := ⟨_, rfl⟩
  rw [← hcd]
  have HCD := hid hcd
  clear hcd
  have CE := hid (show Chg S w w5 from ((C1.out.mono (fun _ h _ => h.elim)).trans HC.out (fun k e hl => by omega)).trans HC5.out (fun k hk _ => hk.1))
  by_cases hz : cd = 0
  case neg =>
    have hz2 : (cd != 0) = true := by simp [hz]
    have G2 := hid (show (openT t).2 = cd by rw [G.out, HCD.out])
    have G3 := hid hz
    clear hz
    go_wp2_with fail
    go_ret2
    refine .inl ⟨by rw [G2.out]; exact G3.out, by rw [G2.out]; rfl, v5, ?_, CE.out⟩
    rw [G.out]
    exact HT5.out.mono (fun k _ hk => by rcases hk with h | h; exact .inl h.1; exact .inr (by have h1 := C1.out.size; have h2 := HC.out.size; omega))
  subst hz
  go_wp2_with fail
  go_ret2
  refine .inr ⟨by rw [G.out, ← HCD.out], v5, A', n', c', rfl, ?_, CE.out⟩
  rw [G.out]
  have h1 := HP1.out
  have s2 := HC.out.size
  have s3 := C1.out.size
  refine ⟨.inr (Nat.le_refl _), HC5.out.blk HBK.out (fun h => by have := h.2; omega), tape_core HT5.out, fun k hk0 => ?_, (HLG.out.chg HC5.out (fun k hk h => by have h2 := hk.1; have h3 := h.2; omega)).mono (fun k hk => ?_), rd13_right _ _ stR0⟩
  · have hk := tape_in HT5.out k hk0
    rcases hk with h | h
    · exact ⟨.inl h, by have := h.2; omega⟩
    · exact ⟨.inr (by omega), by omega⟩
  · have h2 := hk.1
    exact ⟨.inr (by omega), by omega, fun e => by have h3 := HTX.out.inS.2; omega, fun e => by rcases HT5.out.rowS k e with h3 | h3; have := h3.2; omega; have := hk.2; omega⟩
end Go.Proofs.Ytfpjickdkkhndaa.Pa
