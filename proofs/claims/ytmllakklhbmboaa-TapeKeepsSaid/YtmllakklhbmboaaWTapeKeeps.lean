/- The walk of the law TapeKeeps. -/
import Derived.Test.YtmllakklhbmboaaTapeA
import Derived.Test.YtmllakklhbmboaaTy
namespace Go.Proofs.Ytmllakklhbmboaa.T
set_option linter.unusedVariables false
set_option linter.unusedSimpArgs false
open Go.RowKit Go.Proofs.Ytmllakklhbmboaa.C
attribute [local go_sem] max2_int min2_int max_two min_two

theorem keeps_out (w : World) (A B D : Option Addr) (n m k c d e : Nat) (keep : Int) (h : 300 < n ∨ 300 < m ∨ 300 < k) :
    Calls Try.prog 3 #[.slice A n c, .slice B m d, .int .i64 keep, .slice D k e] w fun e w' => e = .returned (.bool true) ∧ Below w.heap.size w w' := by
  have main : ∀ (b1 b2 b3 : Bool), decide ((300 : Int) < (n : Int)) = b1 → decide ((300 : Int) < (m : Int)) = b2 → decide ((300 : Int) < (k : Int)) = b3 → (b1 || b2 || b3) = true →
      Calls Try.prog 3 #[.slice A n c, .slice B m d, .int .i64 keep, .slice D k e] w fun e w' => e = .returned (.bool true) ∧ Below w.heap.size w w' := by
    intro b1 b2 b3 e1 e2 e3 hb
    clear h
    cases b1 with
    | true =>
      clear hb e2 e3
      go_enter Try.func3, Try.ntmps3
      go_wp2_with fail
      refine (anchor_any w).mono ?_
      rintro e w1 ⟨rfl, hb1⟩
      go_wp2_with fail
      go_ret
      exact ⟨rfl, hb1⟩
    | false =>
    cases b2 with
    | true =>
      clear hb e3
      go_enter Try.func3, Try.ntmps3
      go_wp2_with fail
      refine (anchor_any w).mono ?_
      rintro e w1 ⟨rfl, hb1⟩
      go_wp2_with fail
      go_ret
      exact ⟨rfl, hb1⟩
    | false =>
    cases b3 with
    | true =>
      clear hb
      go_enter Try.func3, Try.ntmps3
      go_wp2_with fail
      refine (anchor_any w).mono ?_
      rintro e w1 ⟨rfl, hb1⟩
      go_wp2_with fail
      go_ret
      exact ⟨rfl, hb1⟩
    | false => simp at hb
  refine main _ _ _ rfl rfl rfl ?_
  simp only [Bool.or_eq_true, decide_eq_true_eq]
  omega

theorem crash_calm {b t : List UInt8} {s q : Nat} {r keep : Int} (hs : s ≤ b.length) (hq : (q : Int) = min (max keep 0) ((b.length - s : Nat) : Int)) :
    (calm b s r).crash keep t = calm (b.take s ++ turned ((b.take (s + q)).drop s) t) ((s + q : Nat) : Int) r := by
  have h1 : (min (max keep 0) ((b.length : Int) - (s : Int))).toNat = q := by omega
  simp only [TS.crash, Int.toNat_natCast, h1]

set_option maxHeartbeats 4000000 in
set_option maxRecDepth 100000 in
theorem keeps_in (w : World) (A B D : Option Addr) (n m k c d e : Nat) (keep : Int) (a b t : List UInt8) (h1 : n ≤ 300) (h2 : m ≤ 300) (h3 : k ≤ 300)
    (ha : Ty.At Ty.u8 w (fun k => k < w.heap.size) A n c a) (hb : Ty.At Ty.u8 w (fun k => k < w.heap.size) B m d b) (ht : Ty.At Ty.u8 w (fun k => k < w.heap.size) D k e t) :
    Calls Try.prog 3 #[.slice A n c, .slice B m d, .int .i64 keep, .slice D k e] w fun e w' => e = .returned (.bool true) ∧ Below w.heap.size w w' := by
  obtain ⟨q, hq⟩ : ∃ q : Nat, (q : Int) = mn (mx keep 0) (m : Int) := ⟨(mn (mx keep 0) (m : Int)).toNat, by rw [mn_eq, mx_eq]; omega⟩
  have hq' : (q : Int) = min (max keep 0) (m : Int) := by rw [mn_eq, mx_eq] at hq; exact hq
  have hqm : q ≤ m := by omega
  have HA := hid ha
  have HB := hid hb
  have HT := hid ht
  have hn := ha.1
  have hm := hb.1
  have hk := ht.1
  have g1 : ¬ (300 : Int) < (n : Int) := by omega
  have g2 : ¬ (300 : Int) < (m : Int) := by omega
  have g3 : ¬ (300 : Int) < (k : Int) := by omega
  obtain ⟨cb, hcb⟩ : ∃ cb, cb = a ++ turned (b.take q) t := ⟨_, rfl⟩
  have hcl : cb.length = n + q := by rw [hcb, List.length_append, turned_length, List.length_take]; omega
  have E1 := hid (append_calm (b := []) (l := a) (s := 0) (r := 1000) (by simp; omega))
  have E2 := hid (sync_calm (b := [] ++ a) (s := 0) (r := 1000))
  have E3 := hid (append_calm (b := [] ++ a) (l := b) (s := (([] ++ a : List UInt8).length : Int)) (r := 1000) (by simp; omega))
  have E4 := hid (show (calm ([] ++ a ++ b) (([] ++ a : List UInt8).length : Int) 1000).crash keep t = calm cb ((n + q : Nat) : Int) 1000 from by
    rw [crash_calm (q := q) (by simp) (by simp; omega), hcb]
    have e1 : ([] ++ a ++ b).take ([] ++ a : List UInt8).length = a := by simp
    have e2 : (([] ++ a ++ b).take (([] ++ a : List UInt8).length + q)).drop ([] ++ a : List UInt8).length = b.take q := by simp [List.take_append, List.drop_append]
    rw [e1, e2]; simp [hn])
  have E5 := hid (show (calm cb ((n + q : Nat) : Int) 1000).crash 0 [255] = calm cb ((n + q : Nat) : Int) 1000 from by
    rw [crash_calm (q := 0) (by omega) (by omega)]
    have e1 : (cb.take (n + q + 0)).drop (n + q) = [] := List.drop_eq_nil_of_le (by rw [List.length_take]; omega)
    rw [e1]; simp [turned, ← hcl])
  have HCB := hid hcb
  have HCL := hid hcl
  have HN := hid hn
  have HM := hid hm
  have HK := hid hk
  have HQ := hid hq
  have hqe : mn (mx keep 0) (m : Int) = (q : Int) := hq.symm
  clear ha hb ht hcb hcl hn hm hk hq hq'
  go_enter Try.func3, Try.ntmps3
  go_wp2_with fail
  refine (anchor_any w).mono ?_
  rintro e w1 ⟨rfl, hb1⟩
  have HB1 := hid hb1
  clear hb1
  go_wp2_with fail
  refine (lv_new w w1 (fun _ => False) 1000 HB1.out (fun _ h => h.elim) (by omega) (by omega)).mono ?_
  rintro e w2 ⟨rfl, h2, _⟩
  have H2 := hid h2
  clear h2
  go_wp2_with fail
  refine (lv_append (l := a) H2.out HA.out.2.2.2.1 HN.out HA.out.2.1 (HA.out.bytes.chg (Chg.of_below H2.out.below) (fun k hk h => by omega)) (fun k hk => .inl hk)).mono ?_
  rintro e w3 ⟨rfl, h3, _⟩
  rw [E1.out] at h3 ⊢
  have H3 := hid h3
  clear h3
  go_wp2_with fail
  refine (lv_sync H3.out).mono ?_
  rintro e w4 ⟨rfl, h4, _⟩
  rw [E2.out] at h4 ⊢
  have H4 := hid h4
  clear h4
  go_wp2_with fail
  refine (lv_append (l := b) H4.out HB.out.2.2.2.1 HM.out HB.out.2.1 (HB.out.bytes.chg (Chg.of_below H4.out.below) (fun k hk h => by omega)) (fun k hk => .inl hk)).mono ?_
  rintro e w5 ⟨rfl, h5, _⟩
  rw [E3.out] at h5 ⊢
  have H5 := hid h5
  clear h5
  go_wp2_with fail
  refine (lv_crash (l := t) H5.out HT.out.2.2.2.1 HK.out HT.out.2.1 (HT.out.bytes.chg (Chg.of_below H5.out.below) (fun k hk h => by omega)) (fun k hk => .inl hk)).mono ?_
  rintro e w6 ⟨rfl, h6, _⟩
  rw [E4.out] at h6
  have H6 := hid h6
  clear h6
  go_wp2_with fail
  refine (lv_bytes H6.out).mono ?_
  rintro e w7 ⟨c7, rfl, h7, h7r, h7c, h7d⟩
  have H7 := hid h7
  have ecl : cb.length = n + q := HCL.out
  simp only [ecl] at h7r h7d ⊢
  have R7 := hid h7r
  have D7 := hid h7d
  go_wp2_with fail
  have hat := own_at h7r
  have hcut : cb.take n = a := by rw [HCB.out, List.take_append_of_le_length (by have := HN.out; omega), List.take_of_length_le (by have := HN.out; omega)]
  have hs1 : ∀ nn, (convert 22 9 (.slice (some ⟨w6.heap.size, 0, none⟩) n c7)).run Try.prog (w7.drewN nn) = .ok (.string (bstr a)) (w7.drewN nn) := fun nn =>
    str_run (P := Try.prog) (src := 22) (dst := 9) (e := 5) (l := a) Try.underlying22 Try.underlying5 Try.underlying9 HN.out (by have := (hat.2.2.2.take n).chg ((Chg.refl (fun _ => False) w7).drewN nn) (fun _ _ h => h); rw [← u8s_take, hcut] at this; exact this) (by simp) (by have := hat.1; omega)
  have hs2 : ∀ nn, (convert 22 9 (.slice A n c)).run Try.prog (w7.drewN nn) = .ok (.string (bstr a)) (w7.drewN nn) := fun nn =>
    str_run (P := Try.prog) (src := 22) (dst := 9) (e := 5) (l := a) Try.underlying22 Try.underlying5 Try.underlying9 HN.out ((HA.out.bytes.chg (Chg.of_below H7.out.below) (fun k hk h => by omega)).chg ((Chg.refl (fun _ => False) w7).drewN nn) (fun _ _ h => h)) HA.out.2.2.2.1 HA.out.2.1
  have hw : IntKind.i64.wrap ((n : Int) + (q : Int)) = (n : Int) + (q : Int) := IntWalk.i64_in _ (by omega)
  have hnc : n ≤ c7 := by have := hat.1; omega
  have HAT := hid hat
  have HCUT := hid hcut
  clear h7 h7r h7c h7d hat hcut ecl
  go_quiet ((go_at_call 18; exact Calls.quiet_of_same ((lv_safe (H7.out.drewN _)).mono (fun _ _ h => ⟨h.1, h.2.symm⟩))))
  go_wp2_with fail
  clear hs1 hs2 hw hnc
  go_loopw [84] (fun i wr => ∃ j : Nat, j ≤ q ∧ i = .int .i64 j ∧ ∃ nn, wr = w7.drewN nn) (fun i _ => q - (intOf i).toNat)
  case atStart => exact ⟨0, Nat.zero_le _, rfl, _, rfl⟩
  case round =>
    obtain ⟨j, hj, rfl, nn, rfl⟩ := hrel
    by_cases hlt : j < q
    · obtain ⟨y, hy⟩ : ∃ y, b[j]? = some y := ⟨_, List.getElem?_eq_getElem (by have := HM.out; omega)⟩
      obtain ⟨ab, hab, hSb, hcb⟩ := Ty.byteAt HB.out hy
      subst hab
      have hcb' : w7.cell? (ab.add j) = some (.int .u8 (y.toNat : Int)) := (Chg.of_below H7.out.below).cell hcb (by rw [add_block]; omega)
      have hw : IntKind.i64.wrap ((n : Int) + (j : Int)) = (n : Int) + (j : Int) := IntWalk.i64_in _ (by omega)
      have hi0 : (0 : Int) ≤ (n : Int) + (j : Int) := by omega
      have hi1 : (n : Int) + (j : Int) < (n : Int) + (q : Int) := by omega
      have hcx : ∀ z, cb[n + j]? = some z → w7.cell? ⟨w6.heap.size, ((n : Int) + (j : Int)).toNat, none⟩ = some (.int .u8 (z.toNat : Int)) := fun z hz => by
        rw [show ((n : Int) + (j : Int)).toNat = n + j by omega]
        have h7r := R7.out
        have := h7r.cellAt (n + j) (by have := HCL.out; omega)
        rw [this]
        exact u8s_at hz
      have hget : cb[n + j]? = (turned (b.take q) t)[j]? := by rw [HCB.out, List.getElem?_append_right (by have := HN.out; omega)]; congr 1; have := HN.out; omega
      have hty : (b.take q)[j]? = some y := by rw [List.getElem?_take, if_pos hlt]; exact hy
      rw [turned_get, hty] at hget
      have hjm : j < m := by omega
      clear hcb hSb hy hty
      by_cases hk : j < k
      · obtain ⟨x, hx⟩ : ∃ x, t[j]? = some x := ⟨_, List.getElem?_eq_getElem (by have := HK.out; omega)⟩
        obtain ⟨ad, had, hSd, hcd⟩ := Ty.byteAt HT.out hx
        subst had
        have hcd' : w7.cell? (ad.add j) = some (.int .u8 (x.toNat : Int)) := (Chg.of_below H7.out.below).cell hcd (by rw [add_block]; omega)
        rw [hx] at hget
        have hcc := hcx _ hget
        have hcc2 := hcc
        rw [show ((n : Int) + (j : Int)).toNat = n + j by omega] at hcc2
        have hxor := xor8 y x
        have d1 : decide (k ≤ j) = false := decide_eq_false (by omega)
        have d2 : decide (j < k) = true := decide_eq_true (by omega)
        clear hcx hget hcd hSd hx
        go_wp2_with fail
        go_quiet (fail)
        go_wp2_with fail
        go_roundw
        case measure => simp [intOf]; omega
        case rel => first | exact ⟨j + 1, by omega, by go_num, _, rfl⟩ | ((repeat apply Exists.intro); exact ⟨⟨j + 1, by omega, by go_num, _, rfl⟩, rfl⟩)
      · rw [List.getElem?_eq_none (l := t) (i := j) (by have := HK.out; omega)] at hget
        have hcc := hcx _ hget
        have hcc2 := hcc
        rw [show ((n : Int) + (j : Int)).toNat = n + j by omega] at hcc2
        have d1 : decide (k ≤ j) = true := decide_eq_true (by omega)
        have d2 : decide (j < k) = false := decide_eq_false (by omega)
        clear hcx hget
        go_wp2_with fail
        go_quiet (fail)
        go_wp2_with fail
        go_roundw
        case measure => simp [intOf]; omega
        case rel => first | exact ⟨j + 1, by omega, by go_num, _, rfl⟩ | ((repeat apply Exists.intro); exact ⟨⟨j + 1, by omega, by go_num, _, rfl⟩, rfl⟩)
    · go_wp2_with fail
      refine (lv_crash (l := [255]) ((H7.out.drewN nn).alloc (.cells (u8s [255]).toArray 5)) (by simp) rfl (Nat.le_refl _) (lit_sees _ _) (fun k hk => .inr (.inr hk))).mono ?_
      rintro e w8 ⟨rfl, h8, h8c⟩
      rw [E5.out] at h8
      have H8 := hid h8
      have hr8 := h8c.own ((((Chg.refl (fun _ => False) w7).drewN nn).alloc (.cells (u8s [255]).toArray 5)).own R7.out (fun _ _ h => h)) (fun k hk h => h.2 (.inl (.inr (by simpa [Value.ownBlock] using hk.symm))))
      have R8 := hid hr8
      clear h8 h8c hr8
      go_wp2_with fail
      have hs1 := str_run (P := Try.prog) (src := 22) (dst := 9) (e := 5) (l := cb) (w := w8.drew) Try.underlying22 Try.underlying5 Try.underlying9 HCL.out.symm ((own_at R8.out).2.2.2.chg (Chg.refl (fun _ => False) w8).drew (fun _ _ h => h)) (by simp) (own_at R8.out).1
      go_region_with (go_at_call 17; refine (lv_bytes (H8.out.drewN 1)).mono ?_; rintro e w9 ⟨c9, rfl, h9, h9r, h9c, h9d⟩; have H9 := hid h9; have hs2 : (convert 22 9 (.slice (some ⟨w6.heap.size, 0, none⟩) (n + q) c7)).run Try.prog w9 = .ok (.string (bstr cb)) w9 := str_run (P := Try.prog) (src := 22) (dst := 9) (e := 5) (l := cb) Try.underlying22 Try.underlying5 Try.underlying9 HCL.out.symm ((own_at R8.out).2.2.2.chg ((Chg.refl (fun _ => False) w8).drew.trans h9c (fun _ h _ => h)) (fun _ _ h => h)) (by simp) (own_at R8.out).1; have hs3 : (convert 22 9 (.slice (some ⟨w8.heap.size, 0, none⟩) cb.length c9)).run Try.prog w9 = .ok (.string (bstr cb)) w9 := str_run (P := Try.prog) (src := 22) (dst := 9) (e := 5) (l := cb) Try.underlying22 Try.underlying5 Try.underlying9 rfl (own_at h9r).2.2.2 (by simp) h9d; clear h9 h9r h9c h9d)
      all_goals (go_wp2; go_ret; exact ⟨rfl, H9.out.below⟩)

theorem TapeKeeps_walk (w : World) (A : Option Addr) (n c : Nat) (a : List UInt8) (ha : Ty.At Ty.u8 w (fun k => k < w.heap.size) A n c a) (B : Option Addr) (m d : Nat) (b : List UInt8) (hb : Ty.At Ty.u8 w (fun k => k < w.heap.size) B m d b)
    (keep : Int) (_ : (Lit.int .i64 keep).wf = true) (D : Option Addr) (k e : Nat) (t : List UInt8) (ht : Ty.At Ty.u8 w (fun k => k < w.heap.size) D k e t) :
    Calls Try.prog 3 #[.slice A n c, .slice B m d, .int .i64 keep, .slice D k e] w fun e w' => e = .returned (.bool true) ∧ Below w.heap.size w w' := by
  by_cases h : 300 < n ∨ 300 < m ∨ 300 < k
  · exact keeps_out w A B D n m k c d e keep h
  · exact keeps_in w A B D n m k c d e keep a b t (by omega) (by omega) (by omega) ha hb ht
end Go.Proofs.Ytmllakklhbmboaa.T
