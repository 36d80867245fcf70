/- The walk of the law PostCuts. -/
import Derived.Test.YtmllakklhbmboaaPostF
import Derived.Test.YtmllakklhbmboaaWPostOrder
namespace Go.Proofs.Ytmllakklhbmboaa.Po
set_option linter.unusedVariables false
set_option linter.unusedSimpArgs false
open Go.RowKit Go.Proofs.Ytmllakklhbmboaa.C
attribute [local go_sem] max2_int min2_int max_two min_two

theorem lp_cut {fn : Nat} {lb : Array Value} {p : Pk → Bool} {St : (Nat → Prop) → List Pk → World → Prop} (hC : Clo fn lb p St) {w0 w : World} {X S : Nat → Prop} {g : Nat} {ps asked : List Pk} (h : LvP w0 w X g ps) (hs : St S asked w) (hS : ∀ k, S k → X k ∧ w0.heap.size ≤ k) (hal : asked.length + ps.length ≤ 5000) :
    Calls Try.prog 32 #[.pointer (some ⟨g, 0, none⟩), .func (.func fn) #[] lb] w fun e w' => e = .returned (.int .i64 ((ps.length : Int) - (fil p ps).length)) ∧ LvP w0 w' X g (fil p ps) ∧ (∃ S', St S' (asked ++ ps) w' ∧ (∀ k, S' k → S k ∨ (w.heap.size ≤ k ∧ k < w'.heap.size))) ∧ Chg (fun k => S k ∨ (w0.heap.size ≤ k ∧ ¬ X k)) w w' := by
  obtain ⟨SP, v, hp, hSP⟩ := h.bnd
  refine (cut_any hC hs (fun k hk => h.xlt k (hS k hk).1) hp (fun k hk => (hSP k hk).1) (fun k hk hk' => (hSP k hk).2.2 (hS k hk').1) h.len hal h.big).mono ?_
  rintro e w' ⟨rfl, ⟨v', hp'⟩, S', k1, k2, k3⟩
  have hc : Chg (fun k => S k ∨ (w0.heap.size ≤ k ∧ ¬ X k)) w w' := k3.mono (fun k hk _ => hk.imp id (fun hk => (hSP k hk).2))
  refine ⟨rfl, ⟨⟨SP, v', hp', fun k hk _ => (hSP k hk).2⟩, h.below.trans (hc.below h.size (fun k hk => ?_)), fun k hk => Nat.lt_of_lt_of_le (h.xlt k hk) hc.size, Nat.le_trans (fil_le p ps) h.len, fun x hx => h.big x (List.mem_filter.1 hx).1⟩, ⟨S', k1, k2⟩, hc⟩
  rcases hk with hk | hk
  · exact (hS k hk).2
  · exact hk.1

theorem wrap_more (n : Int) : IntKind.i64.wrap (IntKind.i64.wrap n + 1) = IntKind.i64.wrap (n + 1) := by
  rw [IntKind.wrap_i64, IntKind.wrap_i64, IntKind.wrap_i64]
  omega

/-- The state of PostCuts' function: how often it was asked, and its answer. -/
structure Counts (a8 b3 : Nat) (yes : Bool) (S : Nat → Prop) (asked : List Pk) (w : World) : Prop where
  sa : S a8
  sb : S b3
  ba : w.heap[a8]? = some (.cells #[.int .i64 (IntKind.i64.wrap asked.length)] 3 (0, 0))
  bb : w.heap[b3]? = some (.cells #[.bool yes] 4 (0, 0))
set_option maxHeartbeats 1000000 in
theorem counts_clo (a8 b3 : Nat) (yes : Bool) (hne : a8 ≠ b3) : Clo 36 #[.pointer (some ⟨a8, 0, none⟩), .pointer (some ⟨b3, 0, none⟩)] (fun _ => yes) (Counts a8 b3 yes) where
  enters := Go.Proofs.enters_of Try.func36 (by kernel_rfl) rfl
  chg := fun h hc hd => ⟨h.sa, h.sb, hc.blk h.ba (hd _ h.sa (lt_of_blk h.ba)), hc.blk h.bb (hd _ h.sb (lt_of_blk h.bb))⟩
  call := by
    intro S R asked W x A n c h hx hR hl hal
    clear hal
    have H := hid h
    have HSZ := hid (And.intro (lt_of_blk h.ba) (lt_of_blk h.bb))
    have c0 : W.cell? ⟨a8, 0, none⟩ = some (.int .i64 (IntKind.i64.wrap asked.length)) := by rw [cellAt h.ba]; rfl
    have c1 : W.cell? ⟨b3, 0, none⟩ = some (.bool yes) := by rw [cellAt h.bb]; rfl
    have f0 := freeAt h.ba 0
    have hw := wrap_more asked.length
    generalize IntKind.i64.wrap (asked.length : Int) = cn at c0 hw H
    have hl1 : a8 < W.heap.size := HSZ.out.1
    have hl2 : b3 < W.heap.size := HSZ.out.2
    have hn1 : a8 ≠ W.heap.size := by omega
    have hn2 : b3 ≠ W.heap.size := by omega
    clear h hx hR hl
    show Calls _ 36 #[_, _, _] _ _
    go_enter Try.func36, Try.ntmps36
    go_wp2_with fail
    go_ret
    have hb := blk_alloc (blk_set H.out.ba 0 (.int .i64 (wrap64 ((asked.length : Int) + 1)))) (.cells #[.int .i64 x.src, .int .i64 x.dst, .slice A n c] 38)
    have hs : Chg (fun k => k = a8) W ((W.setCell ⟨a8, 0, none⟩ (.int .i64 (wrap64 ((asked.length : Int) + 1)))).alloc (.cells #[.int .i64 x.src, .int .i64 x.dst, .slice A n c] 38)) := ((Chg.refl (fun k => k = a8) W).set (fun _ => rfl) _).alloc _
    refine ⟨rfl, S, ⟨H.out.sa, H.out.sb, ?_, hs.blk H.out.bb (fun e => hne e.symm)⟩, fun k hk => .inl hk, hs.mono (fun k hk _ => by rw [hk]; exact H.out.sa)⟩
    rw [List.length_append, List.length_singleton, IntWalk.i64_left, show (((asked.length + 1 : Nat)) : Int) = (asked.length : Int) + 1 by omega]
    exact hb

theorem cuts_out (w : World) (A : Option Addr) (n c : Nat) (yes : Bool) (h : 50 < n) :
    Calls Try.prog 11 #[.slice A n c, .bool yes] w fun e w' => e = .returned (.bool true) ∧ Below w.heap.size w w' := by
  have g : (50 : Int) < (n : Int) := by omega
  go_enter Try.func11, Try.ntmps11
  go_wp2_with fail
  refine (anchor_any _).mono ?_
  rintro e w1 ⟨rfl, hb1⟩
  have HB := hid ((Below.refl w.heap.size w).alloc (Nat.le_refl _) (.cells #[.bool yes] 4) |>.trans (hb1.mono (by simp)))
  clear hb1
  go_wp2_with fail
  go_ret
  exact ⟨rfl, HB.out⟩
def bulk (l : List (List UInt8)) : List Pk := l.map fun b => ⟨0, 0, b⟩
theorem bulk_len (l : List (List UInt8)) : (bulk l).length = l.length := by simp [bulk]
theorem bulk_send {l : List (List UInt8)} {b : List UInt8} (h : l.length ≤ 50) (hb : b.length ≤ 300) : sendP (bulk l) ⟨0, 0, b⟩ = (bulk (l ++ [b]), 0) := by
  unfold sendP
  rw [if_neg (by show ¬ 65546 < b.length; omega), if_neg (by rw [bulk_len]; omega)]
  simp [bulk]
theorem bulk_fil (yes : Bool) (l : List (List UInt8)) : fil (fun _ => yes) (bulk l) = if yes = true then [] else bulk l := by
  cases yes <;> simp [fil]

set_option maxHeartbeats 8000000 in
set_option maxRecDepth 100000 in
theorem cuts_in (w : World) (A : Option Addr) (n c : Nat) (ls : List (List UInt8)) (yes : Bool) (ha : Ty.At (Ty.slice Ty.u8) w (fun k => k < w.heap.size) A n c ls) (h : n ≤ 50) :
    Calls Try.prog 11 #[.slice A n c, .bool yes] w fun e w' => e = .returned (.bool true) ∧ Below w.heap.size w w' := by
  have HA := hid ha
  have HN := hid ha.1
  have g : ¬ (50 : Int) < (n : Int) := by omega
  obtain ⟨b3, hb3⟩ : ∃ b3, b3 = w.heap.size := ⟨_, rfl⟩
  obtain ⟨wb, hwb⟩ : ∃ wb, wb = w.alloc (.cells #[.bool yes] 4) := ⟨_, rfl⟩
  have BB := hid (show wb.heap[b3]? = some (.cells #[.bool yes] 4 (0, 0)) by rw [hwb, hb3]; exact blk_new w _)
  have HBW := hid (show Below w.heap.size w wb by rw [hwb]; exact (Below.refl _ w).alloc (Nat.le_refl _) _)
  have HB3 := hid hb3
  clear ha
  go_enter Try.func11, Try.ntmps11
  go_wp2_with fail
  rw [← hwb, ← hb3]
  clear hwb hb3
  refine (anchor_any wb).mono ?_
  rintro e w1 ⟨rfl, hb1⟩
  have HB1 := hid (HBW.out.trans (hb1.mono HBW.out.size))
  have BB1 := hid (show w1.heap[b3]? = some (.cells #[.bool yes] 4 (0, 0)) from (hb1.block b3 (lt_of_blk BB.out)).trans BB.out)
  clear hb1
  go_wp2_with fail
  refine (lp_new w w1 (fun k => k = b3) HB1.out (fun k h => by rw [h]; exact lt_of_blk BB1.out)).mono ?_
  rintro e w2 ⟨rfl, h2, hc2⟩
  obtain ⟨tp, htp⟩ : ∃ tp, tp = w1.heap.size := ⟨_, rfl⟩
  rw [← htp] at h2 ⊢
  have H2 := hid h2
  have BB2 := hid (hc2.blk BB1.out (fun h => h.2 rfl))
  clear h2 htp hc2
  go_wp2_with fail
  go_loopw [18] (fun i wr => ∃ k : Nat, k ≤ n ∧ i = .int .i64 k ∧ LvP w wr (fun k => k = b3) tp (bulk (ls.take k)) ∧ wr.heap[b3]? = some (.cells #[.bool yes] 4 (0, 0))) (fun i _ => n - (intOf i).toNat)
  case atStart => exact ⟨0, Nat.zero_le _, rfl, H2.out, BB2.out⟩
  case round =>
    obtain ⟨k, hk, rfl, hL, hbb⟩ := hrel
    have HL := hid hL
    have HBB := hid hbb
    clear hL hbb
    by_cases hlt : k < n
    · have hkl : k < ls.length := by have := HN.out; omega
      obtain ⟨a, cs, ha, hSa, hK, hc⟩ := (HA.out.chg (Chg.of_below HL.out.below) (fun k hk h => by omega)).get (by decide) (List.getElem?_eq_getElem hkl)
      have HTK := hid (show ls.take (k + 1) = ls.take k ++ [ls[k]] from List.take_succ_eq_append_getElem hkl)
      have HTL := hid (show (ls.take k).length ≤ 50 by rw [List.length_take]; omega)
      generalize ls[k] = b at hK HTK
      subst ha
      obtain ⟨A', m, c', rfl, hd⟩ := hK
      have c0 := hc 0 _ rfl
      simp only [show (Ty.slice Ty.u8).sz = 1 from rfl, Nat.add_zero, Nat.mul_one] at c0
      have HD := hid hd
      have HM := hid hd.1
      clear hd hc hSa
      by_cases hm : (300 : Int) < (m : Int)
      · go_wp2_with fail
        go_ret
        exact ⟨rfl, HL.out.below⟩
      · have HM3 := hid (show b.length ≤ 300 by have := HM.out; omega)
        go_wp2_with fail
        refine (lp_send ⟨0, 0, b⟩ HL.out ⟨rfl, rfl, HD.out⟩).mono ?_
        rintro e w3 ⟨rfl, h3, hc3⟩
        rw [bulk_send HTL.out HM3.out, ← HTK.out] at h3
        rw [bulk_send HTL.out HM3.out]
        have H3 := hid h3
        have BB3 := hid (hc3.blk HBB.out (fun h => h.2 rfl))
        clear h3 hc3
        go_wp2_with fail
        go_roundw
        case measure => simp [intOf]; omega
        case rel => first | exact ⟨k + 1, by omega, by go_num, H3.out, BB3.out⟩ | ((repeat apply Exists.intro); exact ⟨⟨k + 1, by omega, by go_num, H3.out, BB3.out⟩, rfl⟩)
    · obtain rfl : k = n := by omega
      have HL2 := hid (show LvP w wr (fun k => k = b3) tp (bulk ls) by have := HL.out; rw [List.take_of_length_le (by have := HN.out; omega)] at this; exact this)
      obtain ⟨wa, hwa⟩ : ∃ wa, wa = wr.alloc (.cells #[.int .i64 0] 3) := ⟨_, rfl⟩
      have CA := hid (show Chg (fun _ => False) wr wa by rw [hwa]; exact (Chg.refl _ wr).alloc _)
      have BA := hid (show wa.heap[wr.heap.size]? = some (.cells #[.int .i64 0] 3 (0, 0)) by rw [hwa]; exact blk_new wr _)
      have HL3 := hid (show LvP w wa (fun k => k = b3 ∨ k = wr.heap.size) tp (bulk ls) from ((HL2.out.since (CA.out.mono (fun _ h _ => h.elim))).sub (fun k hk => by
        rcases hk with hk | hk
        · exact .inl hk
        · exact .inr ⟨by omega, by have := lt_of_blk BA.out; omega⟩)))
      obtain ⟨a8, ha8⟩ : ∃ a8, a8 = wr.heap.size := ⟨_, rfl⟩
      have HA8 := hid ha8
      have hne : a8 ≠ b3 := by have := lt_of_blk HBB.out; omega
      rw [← ha8] at BA HL3
      have HST := hid (show Counts a8 b3 yes (fun k => k = a8 ∨ k = b3) [] wa from ⟨.inl rfl, .inr rfl, BA.out, CA.out.blk HBB.out (fun h => h)⟩)
      clear HL
      go_wp2_with fail
      rw [← hwa, ← ha8]
      clear hwa ha8
      refine (lp_cut (counts_clo a8 b3 yes hne) HL3.out HST.out (fun k hk => ?_) (by rw [bulk_len]; have := HN.out; simp; omega)).mono ?_
      · have q1 := HB3.out
        have q2 := HA8.out
        have q3 := HL2.out.size
        rcases hk with hk | hk
        · exact ⟨.inr hk, by omega⟩
        · exact ⟨.inl hk, by omega⟩
      rintro e w5 ⟨rfl, h5, ⟨S', k1, k2⟩, k3⟩
      rw [bulk_fil] at h5 ⊢
      rw [List.nil_append] at k1
      have H5 := hid h5
      have d0 : w5.cell? ⟨a8, 0, none⟩ = some (.int .i64 (k : Int)) := by
        rw [cellAt k1.ba, bulk_len, IntWalk.i64_in _ (by have := HN.out; omega), ← HN.out]; rfl
      have d1 : w5.cell? ⟨b3, 0, none⟩ = some (.bool yes) := by rw [cellAt k1.bb]; rfl
      rw [bulk_len, ← HN.out]
      clear h5 k1 k2 k3
      cases yes
      · rw [if_neg (by simp), bulk_len, ← HN.out, Int.sub_self]
        rw [if_neg (by simp)] at H5
        go_wp2_with fail
        refine (lp_len H5.out).mono ?_
        rintro e w6 ⟨rfl, rfl⟩
        rw [bulk_len, ← HN.out]
        go_wp2_with fail
        go_ret
        exact ⟨rfl, H5.out.below⟩
      · rw [if_pos rfl]
        rw [if_pos rfl] at H5
        simp only [List.length_nil]
        go_wp2_with fail
        refine (lp_len H5.out).mono ?_
        rintro e w6 ⟨rfl, rfl⟩
        go_wp2_with fail
        go_ret
        exact ⟨rfl, H5.out.below⟩
theorem PostCuts_walk (w : World) (A : Option Addr) (n c : Nat) (ls : List (List UInt8)) (ha : Ty.At (Ty.slice Ty.u8) w (fun k => k < w.heap.size) A n c ls) (yes : Bool) :
    Calls Try.prog 11 #[.slice A n c, .bool yes] w fun e w' => e = .returned (.bool true) ∧ Below w.heap.size w w' := by
  by_cases h : n ≤ 50
  · exact cuts_in w A n c ls yes ha h
  · exact cuts_out w A n c yes (by omega)
end Go.Proofs.Ytmllakklhbmboaa.Po
