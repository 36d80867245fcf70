/- The contract of tape.Tape's Crash. -/
import Derived.Test.YtmllakklhbmboaaTape
namespace Go.Proofs.Ytmllakklhbmboaa.T
set_option linter.unusedVariables false
set_option linter.unusedSimpArgs false
open Go.RowKit Go.Proofs.Ytmllakklhbmboaa.C
attribute [local go_sem] max2_int min2_int max_two min_two

/-- Bytes that are turned: the first ones by those of the other list. -/
def turned : List UInt8 → List UInt8 → List UInt8
  | [], _ => []
  | b :: l, [] => b :: l
  | b :: l, x :: t => (b ^^^ x) :: turned l t

def TS.crash (T : TS) (keep : Int) (turn : List UInt8) : TS :=
  let n := T.safe.toNat + (min (max keep 0) (T.b.length - T.safe)).toNat
  { T with b := (T.b.take T.safe.toNat) ++ turned ((T.b.take n).drop T.safe.toNat) turn, safe := n, left := -1, down := false }

theorem turned_length : ∀ (l t : List UInt8), (turned l t).length = l.length
  | [], _ => rfl
  | _ :: _, [] => rfl
  | _ :: l, _ :: t => by simp [turned, turned_length l t]

/-- k bytes are turned already. -/
def turnedTo (l t : List UInt8) (k : Nat) : List UInt8 := turned (l.take k) t ++ l.drop k

theorem turned_get : ∀ (l t : List UInt8) (j : Nat), (turned l t)[j]? = (l[j]?).map (fun b => match t[j]? with | some x => b ^^^ x | none => b)
  | [], t, j => by simp [turned]
  | b :: l, [], j => by simp [turned]
  | b :: l, x :: t, 0 => by simp [turned]
  | b :: l, x :: t, j + 1 => by simp [turned, turned_get l t j]

/-- The state of Crash's loop: k bytes of those behind the safe ones are turned. -/
structure CrashAt (S : Nat → Prop) (g : Nat) (T : TS) (m q : Nat) (l : List UInt8) (A2 : Option Addr) (c2 : Nat) (w : World) (k : Nat) (wr : World) : Prop where
  t : TapeAt wr (fun k => S k ∨ w.heap.size ≤ k) g (.slice A2 (m + q) c2) { T with b := T.b.take m ++ turnedTo ((T.b.take (m + q)).drop m) l k }
  c : Chg S w wr

theorem turnedTo_get (L l : List UInt8) (k j : Nat) : (turnedTo L l k)[j]? = (L[j]?).map (fun b => if j < k then (match l[j]? with | some x => b ^^^ x | none => b) else b) := by
  unfold turnedTo
  rw [List.getElem?_append, turned_length, List.length_take, turned_get, List.getElem?_take, List.getElem?_drop]
  by_cases h1 : j < k
  · by_cases h2 : j < L.length
    · rw [if_pos (by omega), if_pos h1]; simp [h1]
    · rw [if_neg (by omega)]
      rw [List.getElem?_eq_none (l := L) (i := j) (by omega), List.getElem?_eq_none (l := L) (by omega)]; rfl
  · rw [if_neg (by omega)]
    by_cases h2 : k ≤ L.length
    · rw [Nat.min_eq_left h2, show k + (j - k) = j by omega]; simp [h1]
    · rw [List.getElem?_eq_none (l := L) (i := j) (by omega), List.getElem?_eq_none (l := L) (by omega)]; rfl
theorem turnedTo_all (L l : List UInt8) (k : Nat) (h : L.length ≤ k) : turnedTo L l k = turned L l := by
  unfold turnedTo; rw [List.take_of_length_le h, List.drop_eq_nil_of_le h, List.append_nil]
theorem turnedTo_succ (L l : List UInt8) (k : Nat) (y x : UInt8) (hy : (turnedTo L l k)[k]? = some y) (hx : l[k]? = some x) : turnedTo L l (k + 1) = (turnedTo L l k).set k (y ^^^ x) := by
  apply List.ext_getElem?
  intro j
  rw [turnedTo_get] at hy
  rw [turnedTo_get, List.getElem?_set, turnedTo_get]
  by_cases h : k = j
  · subst h
    have hl : k < L.length := by
      rcases Nat.lt_or_ge k L.length with h | h
      · exact h
      · rw [List.getElem?_eq_none h] at hy; cases hy
    have hlen : k < (turnedTo L l k).length := by simp [turnedTo, turned_length]; omega
    rw [if_pos rfl, if_pos hlen, hx]
    simp at hy
    simp [hy]
  · rw [if_neg h]
    have e : (j < k + 1) ↔ (j < k) := by omega
    simp only [e]
theorem turnedTo_over (L l : List UInt8) (k : Nat) (h : l.length ≤ k) : turnedTo L l (k + 1) = turnedTo L l k := by
  apply List.ext_getElem?
  intro j
  rw [turnedTo_get, turnedTo_get]
  by_cases h1 : j = k
  · subst h1
    have : l[j]? = none := List.getElem?_eq_none h
    rw [this]; simp
  · have e : (j < k + 1) ↔ (j < k) := by omega
    simp only [e]

/-- One more byte is turned. -/
theorem crash_round {S : Nat → Prop} {g g2 : Nat} {T : TS} {m q : Nat} {l : List UInt8} {c2 : Nat} {w wr : World} {k : Nat} (h : CrashAt S g T m q l (some ⟨g2, 0, none⟩) c2 w k wr) (hb : (T.b.take m ++ turnedTo ((T.b.take (m + q)).drop m) l k).length = m + q)
    (hm : m ≤ T.b.length) {x y : UInt8} (hy : (T.b.take m ++ turnedTo ((T.b.take (m + q)).drop m) l k)[m + k]? = some y) (hx : l[k]? = some x) :
    CrashAt S g T m q l (some ⟨g2, 0, none⟩) c2 w (k + 1) (wr.setCell ⟨g2, m + k, none⟩ (.int .u8 ((y ^^^ x).toNat : Int))) := by
  have hS : S g2 ∨ w.heap.size ≤ g2 := h.t.rowS g2 rfl
  have hne : g2 ≠ g := fun e => h.t.ne (by rw [e]; rfl)
  have hc : Chg (fun k => k = g2) wr (wr.setCell ⟨g2, m + k, none⟩ (.int .u8 ((y ^^^ x).toNat : Int))) := (Chg.refl (fun k => k = g2) wr).set (fun _ => rfl) _
  have hl : (T.b.take m).length = m := by rw [List.length_take]; omega
  have e : T.b.take m ++ turnedTo ((T.b.take (m + q)).drop m) l (k + 1) = (T.b.take m ++ turnedTo ((T.b.take (m + q)).drop m) l k).set (m + k) (y ^^^ x) := by
    rw [List.set_append_right _ _ (by omega), hl, Nat.add_sub_cancel_left]
    congr 1
    refine turnedTo_succ _ _ _ y x ?_ hx
    rw [List.getElem?_append_right (by omega), hl, Nat.add_sub_cancel_left] at hy
    exact hy
  refine ⟨⟨h.t.inS, hc.blk h.t.blk (fun e => hne e.symm), ?_, h.t.rowS⟩, h.c.trans hc (fun i hi hlt => ?_)⟩
  · have hr := h.t.row
    show (wr.setCell _ _).ownsRow 0 5 1 _ (T.b.take m ++ turnedTo ((T.b.take (m + q)).drop m) l (k + 1)).length (u8s (T.b.take m ++ turnedTo ((T.b.take (m + q)).drop m) l (k + 1)))
    rw [e, List.length_set]
    simp only at hr
    rw [hb] at hr ⊢
    have := hr.stored (m + k) (.int .u8 ((y ^^^ x).toNat : Int))
    have e2 : u8s ((T.b.take m ++ turnedTo ((T.b.take (m + q)).drop m) l k).set (m + k) (y ^^^ x)) = (u8s (T.b.take m ++ turnedTo ((T.b.take (m + q)).drop m) l k)).set (m + k) (.int .u8 ((y ^^^ x).toNat : Int)) := by simp only [u8s, List.map_set]
    rw [e2]
    exact this.1
  · subst hi
    rcases hS with hS | hS
    · exact hS
    · omega
theorem crash_stay {S : Nat → Prop} {g : Nat} {T : TS} {m q : Nat} {l : List UInt8} {A2 : Option Addr} {c2 : Nat} {w wr : World} {k : Nat} (h : CrashAt S g T m q l A2 c2 w k wr) (hl : l.length ≤ k) : CrashAt S g T m q l A2 c2 w (k + 1) wr := by
  refine ⟨?_, h.c⟩
  rw [turnedTo_over _ _ _ hl]
  exact h.t

set_option maxHeartbeats 1000000 in
set_option maxRecDepth 100000 in
theorem crash_any (S R : Nat → Prop) (g : Nat) (v : Value) (T : TS) (keep : Int) (A : Option Addr) (n c : Nat) (l : List UInt8) (w : World) (h : TapeAt w S g v T) (hok : T.Ok) (hA : A = none → c = 0) (hn : n = l.length) (hc : n ≤ c) (hs : Sees w R A (u8s l)) (hR : ∀ k, R k → ¬ S k) :
    Calls Try.prog 16 #[.pointer (some ⟨g, 0, none⟩), .int .i64 keep, .slice A n c] w fun e w' => e = .returned (.tuple #[]) ∧ Upd S g (T.crash keep l) w w' := by
  have H := hid h
  obtain ⟨B, d, hv, hc1, hc2, hc3, hc4⟩ := own_sees h.row
  subst hv
  have c0 := h.cells.1
  have c1 := h.cells.2.1
  obtain ⟨m, hm⟩ := Int.eq_ofNat_of_zero_le hok.s0
  have s1 := hok.s1
  rw [hm] at c1 s1
  have HM := hid hm
  have HOK := hid hok
  have r0 := hok.r0
  have r1 := hok.r1
  clear hok hm h
  have hsub : IntKind.i64.wrap ((T.b.length : Int) - (m : Int)) = (T.b.length : Int) - (m : Int) := IntWalk.i64_in _ (by omega)
  obtain ⟨q, hq⟩ : ∃ q : Nat, (q : Int) = mn (mx keep 0) ((T.b.length : Int) - (m : Int)) := ⟨(mn (mx keep 0) ((T.b.length : Int) - (m : Int))).toNat, by rw [mn_eq, mx_eq]; omega⟩
  have hq2 : q ≤ T.b.length - m := by rw [mn_eq, mx_eq] at hq; omega
  have hadd : IntKind.i64.wrap ((m : Int) + mn (mx keep 0) ((T.b.length : Int) - (m : Int))) = ((m + q : Nat) : Int) := by rw [← hq]; rw [IntWalk.i64_in _ (by omega)]; omega
  have HQ := hid hq
  clear hq
  have h0q : (0 : Int) ≤ (q : Int) := Int.natCast_nonneg _
  have hmq : (m : Int) + (q : Int) ≤ (T.b.length : Int) := by omega
  have hcap : m + q ≤ d := by omega
  have hml : ((m + q : Nat) : Int) = (m : Int) + (q : Int) := by omega
  have HML := hid hml
  have HMQ := hid hmq
  have HC3 := hid hc3
  have HC1 := hid hc1
  have HC := hid hc
  have HN := hid hn
  have HSE := hid hs
  have HR := hid hR
  have HA := hid hA
  have HC4 := hid hc4
  clear hml hc3 hc1 hc hn hs hR hA hc4 hc2
  go_enter Try.func16, Try.ntmps16
  go_wp2
  go_quiet (fail)
  go_wp2_with (first | (go_at_call 38; refine (clone_any B (T.b.take (m + q)) (m + q) d S _ HC3.out (by have := HMQ.out; rw [List.length_take]; omega) hcap ?cs (by have := HMQ.out; omega)).mono ?_; (case cs => rw [u8s_take]; exact ((HC4.out.take (m + q)).mono (fun k hk => H.out.rowS k hk)).chg ((Chg.refl (fun _ => False) w).drewN _) (fun _ _ h => h)); rintro e w2 ⟨v2, rfl, h5, h6, h7⟩; obtain ⟨A2, c2, hv2, k1, k2, k3, _⟩ := own_sees h5; subst hv2; have H5 := hid h5; have H6 := hid h6; have H7 := hid h7; have f0 : w2.frozen? ⟨g, 0, none⟩ = false := freeAt (h6.blk H.out.blk (fun h => h)) 0; have c02 := (show w2.cell? ⟨g, 0, none⟩ = some (.slice B T.b.length d) from by rw [cellAt (h6.blk H.out.blk (fun h => h))]; rfl); have c12 := (show w2.cell? ⟨g, 1, none⟩ = some (.int .i64 (m : Int)) from by rw [cellAt (h6.blk H.out.blk (fun h => h))]; rw [← HM.out]; rfl); obtain ⟨A3, c3, hcut3⟩ := cut_from' (P := Try.prog) 22 5 (.int .u8 0) 1 1 Try.underlying22 info5 A2 (m + q) c2 m q (by omega) (by omega); have K1 := hid k1; have K3 := hid k3; clear h5 h6 h7 k1 k2 k3))
  go_quiet (fail)
  go_wp2_with fail
  have hP := put_row (b := T.b.take (m + q)) (N := w.heap.size) H.out (((Chg.refl (fun k => (Value.slice B T.b.length d).ownBlock = some k) w).drewN _).trans H6.out (fun _ h => h.elim)) (by have := HMQ.out; rw [List.length_take, Nat.min_eq_left (by omega)]; exact H5.out) (fun k hk => .inr (H7.out k hk)) (Nat.le_refl _)
  have hI : ∀ nn, CrashAt S g T m q l A2 c2 w 0 ((w2.setCell ⟨g, 0, none⟩ (.slice A2 (m + q) c2)).drewN nn) := fun nn => by
    have e : T.b.take m ++ turnedTo ((T.b.take (m + q)).drop m) l 0 = T.b.take (m + q) := by
      have : T.b.take m = (T.b.take (m + q)).take m := by rw [List.take_take, Nat.min_eq_left (by omega)]
      rw [this]; simp [turnedTo, turned]
    refine ⟨?_, ?_⟩
    · rw [e]; exact hP.1.chg ((Chg.refl (fun _ => False) _).drewN nn) (fun _ _ h => h)
    · exact hP.2.drewN nn
  have HI := hid hI
  clear hI hP c02 c12 f0 c0 c1 hcut3 hadd hsub
  go_loopw [46] (fun i wr => ∃ k : Nat, k ≤ q ∧ i = .int .i64 k ∧ CrashAt S g T m q l A2 c2 w k wr) (fun i _ => q - (intOf i).toNat)
  case atStart => exact ⟨0, Nat.zero_le _, rfl, HI.out _⟩
  case round =>
    obtain ⟨k, hk, rfl, hI⟩ := hrel
    have HI := hid hI
    have c0 := hI.t.cells.1
    have c1 := (show wr.cell? ⟨g, 1, none⟩ = some (.int .i64 (m : Int)) from by rw [hI.t.cells.2.1, ← HM.out])
    clear hI
    by_cases hlt : k < q
    · obtain ⟨g2, cap2, hv2, _, hg2⟩ := HI.out.t.row.form (by have := HI.out.t.row.1; simp [turnedTo, turned_length] at this ⊢; omega)
      injection hv2 with hA2 hv3 hv4
      subst hA2
      clear hv3 hv4
      have hb : (T.b.take m ++ turnedTo ((T.b.take (m + q)).drop m) l k).length = m + q := by simp [turnedTo, turned_length]; omega
      obtain ⟨y, hy⟩ : ∃ y : UInt8, (T.b.take m ++ turnedTo ((T.b.take (m + q)).drop m) l k)[m + k]? = some y := ⟨_, List.getElem?_eq_getElem (by omega)⟩
      have hcell : wr.cell? ⟨g2, m + k, none⟩ = some (.int .u8 (y.toNat : Int)) := by
        have hr := HI.out.t.row
        simp only [hb] at hr
        rw [hr.cellAt (m + k) (by omega)]
        exact u8s_at hy
      have hfree : wr.frozen? ⟨g2, m + k, none⟩ = false := by
        have hr := HI.out.t.row
        simp only [hb] at hr
        exact hr.frozenAt _
      have hkl : ((m : Int) + (k : Int)).toNat = m + k := by omega
      have hwr : IntKind.i64.wrap ((m : Int) + (k : Int)) = (m : Int) + (k : Int) := IntWalk.i64_in _ (by omega)
      by_cases ht : k < n
      · obtain ⟨x, hx⟩ : ∃ x : UInt8, l[k]? = some x := ⟨_, List.getElem?_eq_getElem (by have := HN.out; omega)⟩
        have hA : ∃ a, A = some a ∧ wr.cell? (a.add k) = some (.int .u8 (x.toNat : Int)) := by
          rcases HSE.out with h | ⟨a, ha, hS, hxx⟩
          · exfalso
            have := HN.out
            have h2 : l.length = 0 := by rw [← u8s_length, h]; rfl
            omega
          · exact ⟨a, ha, HI.out.c.cell (hxx k _ (u8s_at hx)) (by rw [add_block]; exact HR.out _ hS)⟩
        obtain ⟨a, ha, hca⟩ := hA
        subst ha
        have HB := hid hb
        have HY := hid hy
        have HX := hid hx
        clear hb hy hx
        have HKL := hid hkl
        have HWR := hid hwr
        clear hkl hwr
        go_wp2
        have hkl := HKL.out
        have hwr := HWR.out
        have hi0 : (0 : Int) ≤ (m : Int) + (k : Int) := by omega
        have hi1 : (m : Int) + (k : Int) < (m : Int) + (q : Int) := by omega
        have hcell2 : wr.cell? ⟨g2, ((m : Int) + (k : Int)).toNat, none⟩ = some (.int .u8 (y.toNat : Int)) := by rw [hkl]; exact hcell
        have hfree2 : wr.frozen? ⟨g2, ((m : Int) + (k : Int)).toNat, none⟩ = false := by rw [hkl]; exact hfree
        clear hkl
        refine wp_tail 17 (by kernel_rfl) (by kernel_rfl) ?_
        simp only [List.take_succ_cons, List.take_zero, List.drop_succ_cons, List.drop_zero]
        repeat still_step
        refine wpStill_nil ?_
        go_wp2
        go_roundw
        case measure => simp [intOf]; omega
        case rel =>
          have := crash_round HI.out HB.out (by omega) HY.out HX.out
          rw [← xor8] at this
          exact ⟨k + 1, by omega, by go_num, ⟨this.t.chg ((Chg.refl (fun _ => False) _).drew) (fun _ _ h => h), this.c.drew⟩⟩
      · have hkn : ¬ k < n := ht
        go_wp2
        go_roundw
        case measure => simp [intOf]; omega
        case rel => exact ⟨k + 1, by omega, by go_num, crash_stay HI.out (by have := HN.out; omega)⟩
    · have f1 := HI.out.t.free 1
      have f3 := HI.out.t.free 3
      have f4 := HI.out.t.free 4
      have c3 := HI.out.t.cells.2.2.2.1
      have c4 := HI.out.t.cells.2.2.2.2
      go_wp2
      go_end0
      have hkq : k = q := by omega
      have hall : turnedTo ((T.b.take (m + q)).drop m) l k = turned ((T.b.take (m + q)).drop m) l := turnedTo_all _ _ _ (by rw [List.length_drop, List.length_take]; omega)
      have hI : TapeAt wr (fun k => S k ∨ w.heap.size ≤ k) g (.slice A2 (m + q) c2) { T with b := T.b.take m ++ turned ((T.b.take (m + q)).drop m) l } := by rw [← hall]; exact HI.out.t
      have e : T.crash keep l = { T with b := T.b.take m ++ turned ((T.b.take (m + q)).drop m) l, safe := ((m + q : Nat) : Int), left := -1, down := false } := by
        have h1 := HM.out
        have h2 := HQ.out
        rw [mn_eq, mx_eq] at h2
        have h3 : T.safe.toNat = m := by omega
        have h4 : (min (max keep 0) ((T.b.length : Int) - T.safe)).toNat = q := by rw [h1]; omega
        simp only [TS.crash, h3, h4]
      refine ⟨rfl, .slice A2 (m + q) c2, ?_, ?_⟩
      · rw [e]
        have hc : ∀ (w : World) (i : Nat) (u : Value), Chg (fun k => k = g) w (w.setCell ⟨g, i, none⟩ u) := fun w i u => (Chg.refl (fun k => k = g) w).set (fun _ => rfl) _
        have hc3 := ((hc wr 1 (.int .i64 ((m : Int) + (q : Int)))).trans (hc _ 3 (.int .i64 (-1))) (fun _ h _ => h)).trans (hc _ 4 (.bool false)) (fun _ h _ => h)
        refine ⟨hI.inS, ?_, hc3.own hI.row (fun k hk => by rintro rfl; exact hI.ne hk), hI.rowS⟩
        exact blk_set (blk_set (blk_set hI.blk 1 _) 3 _) 4 _
      · have hc : ∀ (w : World) (i : Nat) (u : Value), Chg (fun k => k = g) w (w.setCell ⟨g, i, none⟩ u) := fun w i u => (Chg.refl (fun k => k = g) w).set (fun _ => rfl) _
        exact HI.out.c.trans (((hc wr 1 (.int .i64 ((m : Int) + (q : Int)))).trans (hc _ 3 (.int .i64 (-1))) (fun _ h _ => h)).trans (hc _ 4 (.bool false)) (fun _ h _ => h)) (fun i hi _ => by subst hi; exact H.out.inS)

end Go.Proofs.Ytmllakklhbmboaa.T
