/- The walk of the law ClassAdds. (Printed by wip/tools/classlaws.py.) -/
import Derived.Test.YtoojifcpjbakgaaWClassNots
namespace Go.Proofs.Ytoojifcpjbakgaa.Cl
set_option linter.unusedVariables false
set_option linter.unusedSimpArgs false
open Go.RowKit Go.Proofs.Ytoojifcpjbakgaa.C Go.Shelf
attribute [local go_sem] max2_int min2_int max_two min_two


theorem one_nrm {u : Int} (h0 : 0 ≤ u) (h1 : u ≤ 1114367) : nrm [⟨u, u⟩] = true := nrmFrom_cons.2 ⟨⟨h0, Int.le_refl _, h1⟩, by show (-2 : Int) + 2 ≤ u; omega, rfl⟩
theorem one_has (u v : Int) : has [⟨u, u⟩] v = decide (v = u) := by rw [Bool.eq_iff_iff]; simp [has, Rg.has]; omega
theorem cf_one {u : Int} (h0 : 0 ≤ u) (h1 : u ≤ 1114367) : cnt [⟨u, u⟩] = 1 := by show u - u + 1 + 0 = 1; omega
theorem cnt_more {s a : List Rg} {u : Int} (h0 : 0 ≤ u) (h1 : u ≤ 1114367) (hs : nrm s = true) (ha : nrm a = true) (h : ∀ v, has a v = (has s v || decide (v = u))) (hu : has s u = false) : cnt a = cnt s + 1 := by
  have e := cnt_both (a := a) (b := []) (x := s) (y := [⟨u, u⟩]) ha rfl hs (one_nrm h0 h1) (fun v => by rw [h, one_has]) (fun v => by
    rw [one_has, has_nil]
    by_cases hv : v = u
    · subst hv; rw [hu]; rfl
    · rw [decide_eq_false hv, Bool.and_false])
  rw [cf_one h0 h1] at e
  have : cnt ([] : List Rg) = 0 := rfl
  omega
set_option maxHeartbeats 4000000 in
set_option maxRecDepth 100000 in
theorem adds_out1 (w : World) (As : Option Addr) (ms cs : Nat) (qs : List Rg) (has' : Ty.At rgK w (fun k => k < w.heap.size) As ms cs qs) (u : Int) (h1 : 40 < ms) :
    Calls Try.prog 9 #[.slice As ms cs, .int .i64 u] w fun e w' => e = .returned (.bool true) ∧ Below w.heap.size w w' := by
  have Hs := hid has'
  have Ls := hid has'.1
  clear has' 
  have i1 : (40 : Int) < (ms : Int) := by omega
  have Ss1 := Hs
  have T1 := hid (Chg.refl (fun _ => False) w)
  go_enter Try.func9, Try.ntmps9
  go_wp2_with fail
  refine (anchor_any _).mono ?_
  rintro e w2 ⟨rfl, hc⟩
  have Ss2 := hid (Ss1.out.chg hc (fun _ _ h => h))
  have T2 := hid (T1.out.trans hc (fun _ h _ => h))
  clear hc Ss1 T1
  go_wp2_with fail
  go_ret
  exact ⟨rfl, T2.out.below (Nat.le_refl _) (fun _ h => h.elim)⟩
set_option maxHeartbeats 4000000 in
set_option maxRecDepth 100000 in
theorem adds_out3 (w : World) (As : Option Addr) (ms cs : Nat) (qs : List Rg) (has' : Ty.At rgK w (fun k => k < w.heap.size) As ms cs qs) (u : Int) (h1 : ms ≤ 40) (hn : nrm qs = false) :
    Calls Try.prog 9 #[.slice As ms cs, .int .i64 u] w fun e w' => e = .returned (.bool true) ∧ Below w.heap.size w w' := by
  have Hs := hid has'
  have Ls := hid has'.1
  clear has' 
  have i1 : (ms : Int) ≤ 40 := by omega
  have HN := hid hn
  clear hn
  have Ss1 := Hs
  have T1 := hid (Chg.refl (fun _ => False) w)
  go_enter Try.func9, Try.ntmps9
  go_wp2_with fail
  refine (anchor_any _).mono ?_
  rintro e w2 ⟨rfl, hc⟩
  have Ss2 := hid (Ss1.out.chg hc (fun _ _ h => h))
  have T2 := hid (T1.out.trans hc (fun _ h _ => h))
  clear hc Ss1 T1
  go_wp2_with fail
  refine (isnormal_any Ss2.out (by omega)).mono ?_
  rintro e w3 ⟨rfl, hc⟩
  have Ss3 := hid (Ss2.out.chg hc (fun _ _ h => h))
  have T3 := hid (T2.out.trans hc (fun _ h _ => h))
  clear hc Ss2 T2
  rw [HN.out]
  go_wp2_with fail
  go_ret
  exact ⟨rfl, T3.out.below (Nat.le_refl _) (fun _ h => h.elim)⟩
set_option maxHeartbeats 4000000 in
set_option maxRecDepth 100000 in
theorem adds_out4 (w : World) (As : Option Addr) (ms cs : Nat) (qs : List Rg) (has' : Ty.At rgK w (fun k => k < w.heap.size) As ms cs qs) (u : Int) (h1 : ms ≤ 40) (hn : nrm qs = true) (hu : u < 0) :
    Calls Try.prog 9 #[.slice As ms cs, .int .i64 u] w fun e w' => e = .returned (.bool true) ∧ Below w.heap.size w w' := by
  have Hs := hid has'
  have Ls := hid has'.1
  clear has' 
  have i1 : (ms : Int) ≤ 40 := by omega
  have HN := hid hn
  clear hn
  have Ss1 := Hs
  have T1 := hid (Chg.refl (fun _ => False) w)
  go_enter Try.func9, Try.ntmps9
  go_wp2_with fail
  refine (anchor_any _).mono ?_
  rintro e w2 ⟨rfl, hc⟩
  have Ss2 := hid (Ss1.out.chg hc (fun _ _ h => h))
  have T2 := hid (T1.out.trans hc (fun _ h _ => h))
  clear hc Ss1 T1
  go_wp2_with fail
  refine (isnormal_any Ss2.out (by omega)).mono ?_
  rintro e w3 ⟨rfl, hc⟩
  have Ss3 := hid (Ss2.out.chg hc (fun _ _ h => h))
  have T3 := hid (T2.out.trans hc (fun _ h _ => h))
  clear hc Ss2 T2
  rw [HN.out]
  go_wp2_with fail
  go_ret
  exact ⟨rfl, T3.out.below (Nat.le_refl _) (fun _ h => h.elim)⟩
set_option maxHeartbeats 4000000 in
set_option maxRecDepth 100000 in
theorem adds_out5 (w : World) (As : Option Addr) (ms cs : Nat) (qs : List Rg) (has' : Ty.At rgK w (fun k => k < w.heap.size) As ms cs qs) (u : Int) (h1 : ms ≤ 40) (hn : nrm qs = true) (hu0 : 0 ≤ u) (hu : 1114367 < u) :
    Calls Try.prog 9 #[.slice As ms cs, .int .i64 u] w fun e w' => e = .returned (.bool true) ∧ Below w.heap.size w w' := by
  have Hs := hid has'
  have Ls := hid has'.1
  clear has' 
  have i1 : (ms : Int) ≤ 40 := by omega
  have HN := hid hn
  clear hn
  have Ss1 := Hs
  have T1 := hid (Chg.refl (fun _ => False) w)
  go_enter Try.func9, Try.ntmps9
  go_wp2_with fail
  refine (anchor_any _).mono ?_
  rintro e w2 ⟨rfl, hc⟩
  have Ss2 := hid (Ss1.out.chg hc (fun _ _ h => h))
  have T2 := hid (T1.out.trans hc (fun _ h _ => h))
  clear hc Ss1 T1
  go_wp2_with fail
  refine (isnormal_any Ss2.out (by omega)).mono ?_
  rintro e w3 ⟨rfl, hc⟩
  have Ss3 := hid (Ss2.out.chg hc (fun _ _ h => h))
  have T3 := hid (T2.out.trans hc (fun _ h _ => h))
  clear hc Ss2 T2
  rw [HN.out]
  go_wp2_with fail
  go_ret
  exact ⟨rfl, T3.out.below (Nat.le_refl _) (fun _ h => h.elim)⟩
set_option maxHeartbeats 4000000 in
set_option maxRecDepth 100000 in
theorem adds_there (w : World) (As : Option Addr) (ms cs : Nat) (qs : List Rg) (has' : Ty.At rgK w (fun k => k < w.heap.size) As ms cs qs) (u : Int) (h1 : ms ≤ 40) (hn : nrm qs = true) (hu0 : 0 ≤ u) (hu1 : u ≤ 1114367) (hh : has qs u = true) :
    Calls Try.prog 9 #[.slice As ms cs, .int .i64 u] w fun e w' => e = .returned (.bool true) ∧ Below w.heap.size w w' := by
  have Hs := hid has'
  have Ls := hid has'.1
  clear has' 
  have i1 : (ms : Int) ≤ 40 := by omega
  have Ns := hid hn
  have HU := hid hh
  clear hn hh
  have No := hid (one_nrm hu0 hu1)
  have Ss1 := Hs
  have T1 := hid (Chg.refl (fun _ => False) w)
  go_enter Try.func9, Try.ntmps9
  go_wp2_with fail
  refine (anchor_any _).mono ?_
  rintro e w2 ⟨rfl, hc⟩
  have Ss2 := hid (Ss1.out.chg hc (fun _ _ h => h))
  have T2 := hid (T1.out.trans hc (fun _ h _ => h))
  clear hc Ss1 T1
  go_wp2_with fail
  refine (isnormal_any Ss2.out (by omega)).mono ?_
  rintro e w3 ⟨rfl, hc⟩
  have Ss3 := hid (Ss2.out.chg hc (fun _ _ h => h))
  have T3 := hid (T2.out.trans hc (fun _ h _ => h))
  clear hc Ss2 T2
  rw [Ns.out]
  go_wp2_with fail
  obtain ⟨W, hW⟩ : ∃ W, W = w3.alloc (.cells #[.int .i64 u, .int .i64 u] 46) := ⟨_, rfl⟩
  have hc : Chg (fun _ => False) w3 W := by rw [hW]; exact chg_box _ _
  have ho : Ty.At rgK W (fun k => w3.heap.size ≤ k) (some ⟨w3.heap.size, 0, none⟩) 1 1 [⟨u, u⟩] := by rw [hW]; exact at_lit w3 [⟨u, u⟩] (by intro x hx; rw [List.mem_singleton.1 hx]; exact ⟨int_wf (by show _ ≤ u; omega) (by show u ≤ _; omega), int_wf (by show _ ≤ u; omega) (by show u ≤ _; omega)⟩) 1 rfl (by omega) 46
  rw [← hW]
  clear hW
  have Ss4 := hid (Ss3.out.chg hc (fun _ _ h => h))
  have T4 := hid (T3.out.trans hc (fun _ h _ => h))
  clear hc Ss3 T3
  have So4 := hid ho
  clear ho
  refine (or_ok Ss4.out So4.out (by omega) (by omega) Ns.out No.out).mono ?_
  rintro e w5 ⟨v, qa, rfl, ⟨hn, hh, hl⟩, hv, hc⟩
  obtain ⟨Aa, ca, ma, rfl, hm, ha⟩ := own_form_len hv
  have Na := hid hn
  have Pa := hid hh
  have bda : ma ≤ 41 := by omega
  clear hn hh hl hm hv
  have Ss5 := hid (Ss4.out.chg hc (fun _ _ h => h))
  have So5 := hid (So4.out.chg hc (fun _ _ h => h))
  have T5 := hid (T4.out.trans hc (fun _ h _ => h))
  clear hc Ss4 So4 T4
  have Sa5 := hid ha
  clear ha
  go_wp2_with fail
  refine (Not_ok So5.out (by omega) No.out).mono ?_
  rintro e w6 ⟨v, qr, rfl, Er, hv, hc⟩
  obtain ⟨Ar, cr, mr, rfl, hm, ha⟩ := own_form_len hv
  have Nr := hid (show nrm qr = true by rw [Er]; exact not_nrm No.out)
  have Pr := hid (show ∀ v, has qr v = decide (0 ≤ v ∧ v ≤ 1114367 ∧ has [⟨u, u⟩] v = false) from fun v => by rw [Er]; exact not_has No.out v)
  have bdr : mr ≤ 2 := by have q1 := notFrom_len [⟨u, u⟩] 0; rw [hm, Er]; unfold not_; omega
  clear Er hm hv
  have Ss6 := hid (Ss5.out.chg hc (fun _ _ h => h))
  have So6 := hid (So5.out.chg hc (fun _ _ h => h))
  have Sa6 := hid (Sa5.out.chg hc (fun _ _ h => h))
  have T6 := hid (T5.out.trans hc (fun _ h _ => h))
  clear hc Ss5 So5 Sa5 T5
  have Sr6 := hid ha
  clear ha
  go_wp2_with fail
  refine (and_ok Ss6.out Sr6.out (by omega) (by omega) Ns.out Nr.out).mono ?_
  rintro e w7 ⟨v, ql, rfl, ⟨hn, hh, hl⟩, hv, hc⟩
  obtain ⟨Al, cl, ml, rfl, hm, ha⟩ := own_form_len hv
  have Nl := hid hn
  have Pl := hid hh
  have bdl : ml ≤ 45 := by omega
  clear hn hh hl hm hv
  have Ss7 := hid (Ss6.out.chg hc (fun _ _ h => h))
  have So7 := hid (So6.out.chg hc (fun _ _ h => h))
  have Sa7 := hid (Sa6.out.chg hc (fun _ _ h => h))
  have Sr7 := hid (Sr6.out.chg hc (fun _ _ h => h))
  have T7 := hid (T6.out.trans hc (fun _ h _ => h))
  clear hc Ss6 So6 Sa6 Sr6 T6
  have Sl7 := hid ha
  clear ha
  have La := hid (show ∀ v, has qa v = (has qs v || decide (v = u)) from fun v => by rw [Pa.out, one_has])
  have Ll := hid (show ∀ v, has ql v = (has qs v && !decide (v = u)) from fun v => by
    rw [Pl.out, Pr.out, one_has]
    have q1 := nrm_lo (n := v) Ns.out
    cases hv : has qs v
    · rfl
    · have := q1 hv
      by_cases hvu : v = u
      · simp [hvu]
      · simp [hvu]; omega)
  go_wp2_with fail
  refine (has_any u Sa7.out (by omega)).mono ?_
  rintro e w8 ⟨rfl, hc⟩
  have Ss8 := hid (Ss7.out.chg hc (fun _ _ h => h))
  have So8 := hid (So7.out.chg hc (fun _ _ h => h))
  have Sa8 := hid (Sa7.out.chg hc (fun _ _ h => h))
  have Sr8 := hid (Sr7.out.chg hc (fun _ _ h => h))
  have Sl8 := hid (Sl7.out.chg hc (fun _ _ h => h))
  have T8 := hid (T7.out.trans hc (fun _ h _ => h))
  clear hc Ss7 So7 Sa7 Sr7 Sl7 T7
  rw [show has qa u = true from by rw [La.out, decide_eq_true rfl, Bool.or_true]]
  go_wp2_with fail
  refine (has_any u Sl8.out (by omega)).mono ?_
  rintro e w9 ⟨rfl, hc⟩
  have Ss9 := hid (Ss8.out.chg hc (fun _ _ h => h))
  have So9 := hid (So8.out.chg hc (fun _ _ h => h))
  have Sa9 := hid (Sa8.out.chg hc (fun _ _ h => h))
  have Sr9 := hid (Sr8.out.chg hc (fun _ _ h => h))
  have Sl9 := hid (Sl8.out.chg hc (fun _ _ h => h))
  have T9 := hid (T8.out.trans hc (fun _ h _ => h))
  clear hc Ss8 So8 Sa8 Sr8 Sl8 T8
  rw [show has ql u = false from by rw [Ll.out, decide_eq_true rfl]; simp]
  go_wp2_with fail
  refine (has_any u Ss9.out (by omega)).mono ?_
  rintro e w10 ⟨rfl, hc⟩
  have Ss10 := hid (Ss9.out.chg hc (fun _ _ h => h))
  have So10 := hid (So9.out.chg hc (fun _ _ h => h))
  have Sa10 := hid (Sa9.out.chg hc (fun _ _ h => h))
  have Sr10 := hid (Sr9.out.chg hc (fun _ _ h => h))
  have Sl10 := hid (Sl9.out.chg hc (fun _ _ h => h))
  have T10 := hid (T9.out.trans hc (fun _ h _ => h))
  clear hc Ss9 So9 Sa9 Sr9 Sl9 T9
  rw [HU.out]
  go_wp2_with fail
  refine (same_any Sa10.out Ss10.out (by omega) (by omega)).mono ?_
  rintro e w11 ⟨rfl, hc⟩
  have Ss11 := hid (Ss10.out.chg hc (fun _ _ h => h))
  have So11 := hid (So10.out.chg hc (fun _ _ h => h))
  have Sa11 := hid (Sa10.out.chg hc (fun _ _ h => h))
  have Sr11 := hid (Sr10.out.chg hc (fun _ _ h => h))
  have Sl11 := hid (Sl10.out.chg hc (fun _ _ h => h))
  have T11 := hid (T10.out.trans hc (fun _ h _ => h))
  clear hc Ss10 So10 Sa10 Sr10 Sl10 T10
  rw [decide_eq_true (show qa = qs from ext Na.out Ns.out (fun v => by
    rw [La.out]
    by_cases hv : v = u
    · rw [hv, HU.out]; rfl
    · rw [decide_eq_false hv, Bool.or_false]))]
  go_wp2_with fail
  refine (count_any Sl11.out (by omega) Nl.out).mono ?_
  rintro e w12 ⟨rfl, hc⟩
  have Ss12 := hid (Ss11.out.chg hc (fun _ _ h => h))
  have So12 := hid (So11.out.chg hc (fun _ _ h => h))
  have Sa12 := hid (Sa11.out.chg hc (fun _ _ h => h))
  have Sr12 := hid (Sr11.out.chg hc (fun _ _ h => h))
  have Sl12 := hid (Sl11.out.chg hc (fun _ _ h => h))
  have T12 := hid (T11.out.trans hc (fun _ h _ => h))
  clear hc Ss11 So11 Sa11 Sr11 Sl11 T11
  go_wp2_with fail
  refine (count_any Ss12.out (by omega) Ns.out).mono ?_
  rintro e w13 ⟨rfl, hc⟩
  have Ss13 := hid (Ss12.out.chg hc (fun _ _ h => h))
  have So13 := hid (So12.out.chg hc (fun _ _ h => h))
  have Sa13 := hid (Sa12.out.chg hc (fun _ _ h => h))
  have Sr13 := hid (Sr12.out.chg hc (fun _ _ h => h))
  have Sl13 := hid (Sl12.out.chg hc (fun _ _ h => h))
  have T13 := hid (T12.out.trans hc (fun _ h _ => h))
  clear hc Ss12 So12 Sa12 Sr12 Sl12 T12
  have hsum : cnt qs = cnt ql + 1 := cnt_more hu0 hu1 Nl.out Ns.out (fun v => by
    rw [Ll.out]
    by_cases hv : v = u
    · rw [hv, HU.out, decide_eq_true rfl]; rfl
    · rw [decide_eq_false hv]; simp) (by rw [Ll.out, decide_eq_true rfl]; simp)
  have hb2 := (cnt_le ql (nrm_right Nl.out)).1
  have hb3 : cnt ql ≤ 1114368 * ml := by have q1 := (cnt_le ql (nrm_right Nl.out)).2; rw [← Sl13.out.1] at q1; exact q1
  generalize cnt qs = s1 at hsum ⊢
  generalize cnt ql = s2 at hsum hb2 hb3 ⊢
  have hb4 : s2 ≤ 100000000 := by omega
  subst hsum
  clear hb3
  go_wp2_with fail
  go_ret
  exact ⟨rfl, T13.out.below (Nat.le_refl _) (fun _ h => h.elim)⟩
set_option maxHeartbeats 4000000 in
set_option maxRecDepth 100000 in
theorem adds_new (w : World) (As : Option Addr) (ms cs : Nat) (qs : List Rg) (has' : Ty.At rgK w (fun k => k < w.heap.size) As ms cs qs) (u : Int) (h1 : ms ≤ 40) (hn : nrm qs = true) (hu0 : 0 ≤ u) (hu1 : u ≤ 1114367) (hh : has qs u = false) :
    Calls Try.prog 9 #[.slice As ms cs, .int .i64 u] w fun e w' => e = .returned (.bool true) ∧ Below w.heap.size w w' := by
  have Hs := hid has'
  have Ls := hid has'.1
  clear has' 
  have i1 : (ms : Int) ≤ 40 := by omega
  have Ns := hid hn
  have HU := hid hh
  clear hn hh
  have No := hid (one_nrm hu0 hu1)
  have Ss1 := Hs
  have T1 := hid (Chg.refl (fun _ => False) w)
  go_enter Try.func9, Try.ntmps9
  go_wp2_with fail
  refine (anchor_any _).mono ?_
  rintro e w2 ⟨rfl, hc⟩
  have Ss2 := hid (Ss1.out.chg hc (fun _ _ h => h))
  have T2 := hid (T1.out.trans hc (fun _ h _ => h))
  clear hc Ss1 T1
  go_wp2_with fail
  refine (isnormal_any Ss2.out (by omega)).mono ?_
  rintro e w3 ⟨rfl, hc⟩
  have Ss3 := hid (Ss2.out.chg hc (fun _ _ h => h))
  have T3 := hid (T2.out.trans hc (fun _ h _ => h))
  clear hc Ss2 T2
  rw [Ns.out]
  go_wp2_with fail
  obtain ⟨W, hW⟩ : ∃ W, W = w3.alloc (.cells #[.int .i64 u, .int .i64 u] 46) := ⟨_, rfl⟩
  have hc : Chg (fun _ => False) w3 W := by rw [hW]; exact chg_box _ _
  have ho : Ty.At rgK W (fun k => w3.heap.size ≤ k) (some ⟨w3.heap.size, 0, none⟩) 1 1 [⟨u, u⟩] := by rw [hW]; exact at_lit w3 [⟨u, u⟩] (by intro x hx; rw [List.mem_singleton.1 hx]; exact ⟨int_wf (by show _ ≤ u; omega) (by show u ≤ _; omega), int_wf (by show _ ≤ u; omega) (by show u ≤ _; omega)⟩) 1 rfl (by omega) 46
  rw [← hW]
  clear hW
  have Ss4 := hid (Ss3.out.chg hc (fun _ _ h => h))
  have T4 := hid (T3.out.trans hc (fun _ h _ => h))
  clear hc Ss3 T3
  have So4 := hid ho
  clear ho
  refine (or_ok Ss4.out So4.out (by omega) (by omega) Ns.out No.out).mono ?_
  rintro e w5 ⟨v, qa, rfl, ⟨hn, hh, hl⟩, hv, hc⟩
  obtain ⟨Aa, ca, ma, rfl, hm, ha⟩ := own_form_len hv
  have Na := hid hn
  have Pa := hid hh
  have bda : ma ≤ 41 := by omega
  clear hn hh hl hm hv
  have Ss5 := hid (Ss4.out.chg hc (fun _ _ h => h))
  have So5 := hid (So4.out.chg hc (fun _ _ h => h))
  have T5 := hid (T4.out.trans hc (fun _ h _ => h))
  clear hc Ss4 So4 T4
  have Sa5 := hid ha
  clear ha
  go_wp2_with fail
  refine (Not_ok So5.out (by omega) No.out).mono ?_
  rintro e w6 ⟨v, qr, rfl, Er, hv, hc⟩
  obtain ⟨Ar, cr, mr, rfl, hm, ha⟩ := own_form_len hv
  have Nr := hid (show nrm qr = true by rw [Er]; exact not_nrm No.out)
  have Pr := hid (show ∀ v, has qr v = decide (0 ≤ v ∧ v ≤ 1114367 ∧ has [⟨u, u⟩] v = false) from fun v => by rw [Er]; exact not_has No.out v)
  have bdr : mr ≤ 2 := by have q1 := notFrom_len [⟨u, u⟩] 0; rw [hm, Er]; unfold not_; omega
  clear Er hm hv
  have Ss6 := hid (Ss5.out.chg hc (fun _ _ h => h))
  have So6 := hid (So5.out.chg hc (fun _ _ h => h))
  have Sa6 := hid (Sa5.out.chg hc (fun _ _ h => h))
  have T6 := hid (T5.out.trans hc (fun _ h _ => h))
  clear hc Ss5 So5 Sa5 T5
  have Sr6 := hid ha
  clear ha
  go_wp2_with fail
  refine (and_ok Ss6.out Sr6.out (by omega) (by omega) Ns.out Nr.out).mono ?_
  rintro e w7 ⟨v, ql, rfl, ⟨hn, hh, hl⟩, hv, hc⟩
  obtain ⟨Al, cl, ml, rfl, hm, ha⟩ := own_form_len hv
  have Nl := hid hn
  have Pl := hid hh
  have bdl : ml ≤ 45 := by omega
  clear hn hh hl hm hv
  have Ss7 := hid (Ss6.out.chg hc (fun _ _ h => h))
  have So7 := hid (So6.out.chg hc (fun _ _ h => h))
  have Sa7 := hid (Sa6.out.chg hc (fun _ _ h => h))
  have Sr7 := hid (Sr6.out.chg hc (fun _ _ h => h))
  have T7 := hid (T6.out.trans hc (fun _ h _ => h))
  clear hc Ss6 So6 Sa6 Sr6 T6
  have Sl7 := hid ha
  clear ha
  have La := hid (show ∀ v, has qa v = (has qs v || decide (v = u)) from fun v => by rw [Pa.out, one_has])
  have Ll := hid (show ∀ v, has ql v = (has qs v && !decide (v = u)) from fun v => by
    rw [Pl.out, Pr.out, one_has]
    have q1 := nrm_lo (n := v) Ns.out
    cases hv : has qs v
    · rfl
    · have := q1 hv
      by_cases hvu : v = u
      · simp [hvu]
      · simp [hvu]; omega)
  go_wp2_with fail
  refine (has_any u Sa7.out (by omega)).mono ?_
  rintro e w8 ⟨rfl, hc⟩
  have Ss8 := hid (Ss7.out.chg hc (fun _ _ h => h))
  have So8 := hid (So7.out.chg hc (fun _ _ h => h))
  have Sa8 := hid (Sa7.out.chg hc (fun _ _ h => h))
  have Sr8 := hid (Sr7.out.chg hc (fun _ _ h => h))
  have Sl8 := hid (Sl7.out.chg hc (fun _ _ h => h))
  have T8 := hid (T7.out.trans hc (fun _ h _ => h))
  clear hc Ss7 So7 Sa7 Sr7 Sl7 T7
  rw [show has qa u = true from by rw [La.out, decide_eq_true rfl, Bool.or_true]]
  go_wp2_with fail
  refine (has_any u Sl8.out (by omega)).mono ?_
  rintro e w9 ⟨rfl, hc⟩
  have Ss9 := hid (Ss8.out.chg hc (fun _ _ h => h))
  have So9 := hid (So8.out.chg hc (fun _ _ h => h))
  have Sa9 := hid (Sa8.out.chg hc (fun _ _ h => h))
  have Sr9 := hid (Sr8.out.chg hc (fun _ _ h => h))
  have Sl9 := hid (Sl8.out.chg hc (fun _ _ h => h))
  have T9 := hid (T8.out.trans hc (fun _ h _ => h))
  clear hc Ss8 So8 Sa8 Sr8 Sl8 T8
  rw [show has ql u = false from by rw [Ll.out, decide_eq_true rfl]; simp]
  go_wp2_with fail
  refine (has_any u Ss9.out (by omega)).mono ?_
  rintro e w10 ⟨rfl, hc⟩
  have Ss10 := hid (Ss9.out.chg hc (fun _ _ h => h))
  have So10 := hid (So9.out.chg hc (fun _ _ h => h))
  have Sa10 := hid (Sa9.out.chg hc (fun _ _ h => h))
  have Sr10 := hid (Sr9.out.chg hc (fun _ _ h => h))
  have Sl10 := hid (Sl9.out.chg hc (fun _ _ h => h))
  have T10 := hid (T9.out.trans hc (fun _ h _ => h))
  clear hc Ss9 So9 Sa9 Sr9 Sl9 T9
  rw [HU.out]
  go_wp2_with fail
  refine (same_any Sl10.out Ss10.out (by omega) (by omega)).mono ?_
  rintro e w11 ⟨rfl, hc⟩
  have Ss11 := hid (Ss10.out.chg hc (fun _ _ h => h))
  have So11 := hid (So10.out.chg hc (fun _ _ h => h))
  have Sa11 := hid (Sa10.out.chg hc (fun _ _ h => h))
  have Sr11 := hid (Sr10.out.chg hc (fun _ _ h => h))
  have Sl11 := hid (Sl10.out.chg hc (fun _ _ h => h))
  have T11 := hid (T10.out.trans hc (fun _ h _ => h))
  clear hc Ss10 So10 Sa10 Sr10 Sl10 T10
  rw [decide_eq_true (show ql = qs from ext Nl.out Ns.out (fun v => by
    rw [Ll.out]
    by_cases hv : v = u
    · rw [hv, HU.out]; rfl
    · rw [decide_eq_false hv]; simp))]
  go_wp2_with fail
  refine (count_any Sa11.out (by omega) Na.out).mono ?_
  rintro e w12 ⟨rfl, hc⟩
  have Ss12 := hid (Ss11.out.chg hc (fun _ _ h => h))
  have So12 := hid (So11.out.chg hc (fun _ _ h => h))
  have Sa12 := hid (Sa11.out.chg hc (fun _ _ h => h))
  have Sr12 := hid (Sr11.out.chg hc (fun _ _ h => h))
  have Sl12 := hid (Sl11.out.chg hc (fun _ _ h => h))
  have T12 := hid (T11.out.trans hc (fun _ h _ => h))
  clear hc Ss11 So11 Sa11 Sr11 Sl11 T11
  go_wp2_with fail
  refine (count_any Ss12.out (by omega) Ns.out).mono ?_
  rintro e w13 ⟨rfl, hc⟩
  have Ss13 := hid (Ss12.out.chg hc (fun _ _ h => h))
  have So13 := hid (So12.out.chg hc (fun _ _ h => h))
  have Sa13 := hid (Sa12.out.chg hc (fun _ _ h => h))
  have Sr13 := hid (Sr12.out.chg hc (fun _ _ h => h))
  have Sl13 := hid (Sl12.out.chg hc (fun _ _ h => h))
  have T13 := hid (T12.out.trans hc (fun _ h _ => h))
  clear hc Ss12 So12 Sa12 Sr12 Sl12 T12
  have hsum : cnt qa = cnt qs + 1 := cnt_more hu0 hu1 Ns.out Na.out La.out HU.out
  have hb2 := (cnt_le qs (nrm_right Ns.out)).1
  have hb3 : cnt qs ≤ 1114368 * ms := by have q1 := (cnt_le qs (nrm_right Ns.out)).2; rw [← Ss13.out.1] at q1; exact q1
  generalize cnt qa = s1 at hsum ⊢
  generalize cnt qs = s2 at hsum hb2 hb3 ⊢
  have hb4 : s2 ≤ 100000000 := by omega
  subst hsum
  clear hb3
  go_wp2_with fail
  go_ret
  exact ⟨rfl, T13.out.below (Nat.le_refl _) (fun _ h => h.elim)⟩
theorem ClassAdds_walk (w : World) (As : Option Addr) (ms cs : Nat) (qs : List Rg) (has' : Ty.At rgK w (fun k => k < w.heap.size) As ms cs qs) (u : Int) (hu : (Lit.int .i64 u).wf = true) :
    Calls Try.prog 9 #[.slice As ms cs, .int .i64 u] w fun e w' => e = .returned (.bool true) ∧ Below w.heap.size w w' := by
  by_cases h1 : ms ≤ 40
  · cases hn : nrm qs
    · exact adds_out3 w As ms cs qs has' u h1 hn
    · by_cases hu0 : 0 ≤ u
      · by_cases hu1 : u ≤ 1114367
        · cases hh : has qs u
          · exact adds_new w As ms cs qs has' u h1 hn hu0 hu1 hh
          · exact adds_there w As ms cs qs has' u h1 hn hu0 hu1 hh
        · exact adds_out5 w As ms cs qs has' u h1 hn hu0 (by omega)
      · exact adds_out4 w As ms cs qs has' u h1 hn (by omega)
  · exact adds_out1 w As ms cs qs has' u (by omega)
end Go.Proofs.Ytoojifcpjbakgaa.Cl
