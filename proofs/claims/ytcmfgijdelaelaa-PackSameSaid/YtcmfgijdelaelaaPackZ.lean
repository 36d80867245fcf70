
/- The document's reader: its log. -/

import Derived.Test.YtcmfgijdelaelaaPackY

namespace Go.Proofs.Ytcmfgijdelaelaa.Pa

set_option linter.unusedVariables false

set_option linter.unusedSimpArgs false

open Go.RowKit Go.Proofs.Ytcmfgijdelaelaa.C

attribute [local go_sem] max2_int min2_int max_two min_two

theorem infoEntryR : (Try.prog.info? 70).map (fun i => (i.zero, i.size, i.bytes)) = some (some (.agg #[.int .i64 0, .int .i64 0, .int .i64 0, .int .i64 0, .int .i64 0, .int .i64 0, .int .i64 0, .slice none 0 0, .slice none 0 0]), 9, 104) := by kernel_rfl
structure LogAt (w : World) (B g : Nat) (A : Option Addr) (n c : Nat) (b : List UInt8) (Y : Option (List UInt8)) (k : Nat) (us : List Entry) (A' : Option Addr) (c' at' : Nat) (bad' : Bool) (wr : World) : Prop where
  len : us.length = k
  vec : Vec entryK 70 wr (fun k => w.heap.size ≤ k) (fun k => w.heap.size ≤ k) (.slice A' k c') us
  chg : Chg (fun j => j = g) w wr
  rd : Rf wr B g A n c b at' bad'
  eq : Y.bind (rdList rdEntryR k) = (left b at' bad').map fun r => (us, r)
def RfLog (w : World) (B g : Nat) (A : Option Addr) (n c : Nat) (b : List UInt8) (at_ : Nat) (bad : Bool) (e : Ending) (w' : World) : Prop :=
  ∃ (xs : List Entry) (A' : Option Addr) (c' : Nat), e = .returned (.slice A' xs.length c') ∧ Ty.At entryK w' (fun k => w.heap.size ≤ k) A' xs.length c' xs ∧ Chg (fun k => k = g) w w' ∧ RfTo B g A n c b at_ bad (rdSeq 1 rdEntryR) w' xs
set_option maxHeartbeats 4000000 in
set_option maxRecDepth 100000 in
theorem reflog_r {w : World} {B g : Nat} {A : Option Addr} {n c : Nat} {b : List UInt8} {at_ : Nat} {bad : Bool} (h : Rf w B g A n c b at_ bad) (hn : n ≤ 1000000) :
    Calls Try.prog 43 #[.pointer (some ⟨g, 0, none⟩)] w (RfLog w B g A n c b at_ bad) := by
  have H := hid h
  have HG := hid h.lt
  clear h
  go_enter Try.func43, Try.ntmps43
  go_wp2_with fail
  refine (refcount_r H.out hn).mono ?_
  rintro e w1 ⟨q, rfl, hqn, hc1, at1, bad1, hr1, eq1⟩
  have EQ1 := hid eq1
  have C1 := hid hc1
  have L0 := hid (show LogAt w B g A n c b (left b at1 bad1) 0 [] none 0 at1 bad1 w1 from ⟨rfl, Vec.nil _ _ _ _ _, hc1, hr1, by cases bad1 <;> simp [left, rdList]⟩)
  have hqn2 : (q : Int) ≤ 1000000 := by omega
  clear hc1 hr1 eq1
  go_wp2_with fail
  go_loopw [3, 5] (fun sl i wr => ∃ (k : Nat) (us : List Entry) (A' : Option Addr) (c' at' : Nat) (bad' : Bool), k ≤ q ∧ i = .int .i64 k ∧ sl = .slice A' k c' ∧ LogAt w B g A n c b (left b at1 bad1) k us A' c' at' bad' wr) (fun _ i _ => q - (intOf i).toNat)
  case atStart => exact ⟨0, [], none, 0, at1, bad1, Nat.zero_le _, rfl, rfl, L0.out⟩
  case round =>
    obtain ⟨k, us, A', c', at', bad', hk, rfl, rfl, hT⟩ := hrel
    have HT := hid hT
    have hd3 := hT.rd.cells.2.2
    clear hT
    by_cases hgo : k < q ∧ bad' = false
    · obtain ⟨hlt, rfl⟩ := hgo
      have hlt2 : (k : Int) < (q : Int) := by omega
      go_wp2_with fail
      clear hd3
      refine (refentry_r HT.out.rd hn).mono ?_
      rintro e w3 ⟨y, E1, m1, d1, E2, m2, d2, rfl, hye, hc3, at2, bad2, hr3, eq3⟩
      have H5 := hid hr3
      have H6 := hid eq3
      have HYE := hid (hye.bound)
      have CR := hid hc3
      have HKL := hid HT.out.len
      have HV3 := hid (HT.out.vec.chg hc3 (fun j hj e => HT.out.vec.ne HT.out.rd.blk (by decide) (e ▸ hj)) (fun j hj _ hl e => by subst e; have := HG.out; omega))
      have HROW := hid (show ∀ w', Chg (fun _ => False) w3 w' → Ty.Row entryK w' (fun k' => w.heap.size ≤ k' ∧ (Value.slice A' k c').ownBlock ≠ some k' ∧ k' < w'.heap.size) [y] (Array.toList #[.int .i64 y.view, .int .i64 y.client, .int .i64 y.request, .int .i64 y.dflt, .int .i64 y.closed, .int .i64 y.fuel, .int .i64 y.stack, .slice E1 m1 d1, .slice E2 m2 d2]) from fun w' hc => Ty.Row.one_ (entry_shut ((HYE.out.chg hc (fun _ _ h => h)).mono (fun j hj => ⟨Nat.le_trans HT.out.chg.size hj.1, fun e' => Nat.lt_irrefl _ (Nat.lt_of_lt_of_le (HT.out.vec.lt j e') hj.1), Nat.lt_of_lt_of_le hj.2 hc.size⟩))))
      clear hye hc3 hr3 eq3
      go_wp2_with (first | (at_builtin; refine vec_list (d := entryK) _ rfl (.tmp 20) (.tmp 23) 28 70 (.agg #[.int .i64 0, .int .i64 0, .int .i64 0, .int .i64 0, .int .i64 0, .int .i64 0, .int .i64 0, .slice none 0 0, .slice none 0 0]) 104 rfl Try.underlying28 infoEntryR rfl (by decide) (by decide) (.slice A' k c') rfl (HV3.out.chg ((Chg.refl (fun _ => False) w3).alloc (.cells #[.int .i64 y.view, .int .i64 y.client, .int .i64 y.request, .int .i64 y.dflt, .int .i64 y.closed, .int .i64 y.fuel, .int .i64 y.stack, .slice E1 m1 d1, .slice E2 m2 d2] 70)) (fun _ _ h => h) (fun _ _ _ _ h => h)) (some ⟨w3.heap.size, 0, none⟩) 1 1 (ys := [y]) rfl (by simp) (by omega) rfl (new_sees w3 #[.int .i64 y.view, .int .i64 y.client, .int .i64 y.request, .int .i64 y.dflt, .int .i64 y.closed, .int .i64 y.fuel, .int .i64 y.stack, .slice E1 m1 d1, .slice E2 m2 d2] 70) (HROW.out _ ((Chg.refl (fun _ => False) w3).alloc (.cells #[.int .i64 y.view, .int .i64 y.client, .int .i64 y.request, .int .i64 y.dflt, .int .i64 y.closed, .int .i64 y.fuel, .int .i64 y.stack, .slice E1 m1 d1, .slice E2 m2 d2] 70))) (by rw [HKL.out]; omega) ?_; rw [HKL.out]; intro A4 c4 w4 h1 h2; have G1 := hid h1; have G2 := hid h2; clear h1 h2))
      have HN := hid (show LogAt w B g A n c b (left b at1 bad1) (k + 1) (us ++ [y]) A4 c4 at2 bad2 w4 from ⟨by rw [List.length_append, HKL.out]; rfl, G1.out.mono (fun j h _ => by rcases h with h | h; exact h; exact Nat.le_trans (Nat.le_trans HT.out.chg.size CR.out.size) (Nat.le_trans ((Chg.refl (fun _ => False) w3).alloc _).size h)) (fun k h _ => h), (HT.out.chg.trans CR.out (fun _ h _ => h)).trans (((Chg.refl (fun j => (Value.slice A' k c').ownBlock = some j) w3).alloc _).trans G2.out (fun _ h _ => h)) (fun j hj hl => by have := HT.out.vec.inS j hj; omega), H5.out.chg (((Chg.refl (fun j => (Value.slice A' k c').ownBlock = some j) w3).alloc _).trans G2.out (fun _ h _ => h)) (fun j hj => by have := HT.out.vec.inS j hj; have := H.out.low; have := HG.out; omega) (fun e => HT.out.vec.ne HT.out.rd.blk (by decide) e), by
        rw [rdList_step HT.out.eq, H6.out]
        cases (left b at2 bad2) <;> rfl⟩)
      clear G1 G2 H5 H6 HYE HV3
      go_roundw
      case measure => simp [intOf]; omega
      case rel => first | exact ⟨k + 1, _, _, _, _, _, hlt, by go_num, rfl, HN.out⟩ | ((repeat apply Exists.intro); exact ⟨⟨k + 1, _, _, _, _, _, hlt, by go_num, rfl, HN.out⟩, rfl⟩)
    · have HD1 := hid (show (left b at_ bad).bind (rdSeq 1 rdEntryR) = (left b at' bad').map fun r => (us, r) from by
        rw [rdSeq_of EQ1.out]
        cases bad' with
        | true =>
          rw [left_none, Option.map_none]
          have := HT.out.eq
          rw [left_none, Option.map_none] at this
          exact rdList_stop this hk
        | false =>
          obtain rfl : k = q := by
            have : ¬ k < q := fun h => hgo ⟨h, rfl⟩
            omega
          exact HT.out.eq)
      have hex : ¬ (k : Int) < (q : Int) ∨ ((k : Int) < (q : Int) ∧ bad' = true) := by
        by_cases h1 : k < q
        · right
          refine ⟨by omega, ?_⟩
          cases bad' with
          | true => rfl
          | false => exact absurd ⟨h1, rfl⟩ hgo
        · left; omega
      clear hgo
      have HUL := hid HT.out.len
      rcases hex with hex | ⟨hex, rfl⟩
      all_goals
        go_wp2_with fail
        go_ret
        obtain rfl := HUL.out
        exact ⟨us, A', c', rfl, HT.out.vec.at.mono (fun k hk => by rcases hk with hk | hk <;> exact hk), HT.out.chg, at', _, HT.out.rd, HD1.out⟩
end Go.Proofs.Ytcmfgijdelaelaa.Pa
