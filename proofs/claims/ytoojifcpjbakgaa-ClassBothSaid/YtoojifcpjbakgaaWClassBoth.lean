/- The walk of the law ClassBoth. (Printed by wip/tools/classlaws.py.) -/
import Derived.Test.YtoojifcpjbakgaaWClassNots
namespace Go.Proofs.Ytoojifcpjbakgaa.Cl
set_option linter.unusedVariables false
set_option linter.unusedSimpArgs false
open Go.RowKit Go.Proofs.Ytoojifcpjbakgaa.C Go.Shelf
attribute [local go_sem] max2_int min2_int max_two min_two


set_option maxHeartbeats 4000000 in
set_option maxRecDepth 100000 in
theorem both_out1 (w : World) (As : Option Addr) (ms cs : Nat) (qs : List Rg) (has' : Ty.At rgK w (fun k => k < w.heap.size) As ms cs qs) (Ao : Option Addr) (mo co : Nat) (qo : List Rg) (hao : Ty.At rgK w (fun k => k < w.heap.size) Ao mo co qo) (ask : Int) (h1 : 40 < ms) :
    Calls Try.prog 8 #[.slice As ms cs, .slice Ao mo co, .int .i64 ask] w fun e w' => e = .returned (.bool true) ∧ Below w.heap.size w w' := by
  have Hs := hid has'
  have Ls := hid has'.1
  have Ho := hid hao
  have Lo := hid hao.1
  clear has' hao
  have i1 : (40 : Int) < (ms : Int) := by omega
  have Ss1 := Hs
  have So1 := Ho
  have T1 := hid (Chg.refl (fun _ => False) w)
  go_enter Try.func8, Try.ntmps8
  go_wp2_with fail
  refine (anchor_any _).mono ?_
  rintro e w2 ⟨rfl, hc⟩
  have Ss2 := hid (Ss1.out.chg hc (fun _ _ h => h))
  have So2 := hid (So1.out.chg hc (fun _ _ h => h))
  have T2 := hid (T1.out.trans hc (fun _ h _ => h))
  clear hc Ss1 So1 T1
  go_wp2_with fail
  go_ret
  exact ⟨rfl, T2.out.below (Nat.le_refl _) (fun _ h => h.elim)⟩
set_option maxHeartbeats 4000000 in
set_option maxRecDepth 100000 in
theorem both_out2 (w : World) (As : Option Addr) (ms cs : Nat) (qs : List Rg) (has' : Ty.At rgK w (fun k => k < w.heap.size) As ms cs qs) (Ao : Option Addr) (mo co : Nat) (qo : List Rg) (hao : Ty.At rgK w (fun k => k < w.heap.size) Ao mo co qo) (ask : Int) (h1 : ms ≤ 40) (h2 : 40 < mo) :
    Calls Try.prog 8 #[.slice As ms cs, .slice Ao mo co, .int .i64 ask] w fun e w' => e = .returned (.bool true) ∧ Below w.heap.size w w' := by
  have Hs := hid has'
  have Ls := hid has'.1
  have Ho := hid hao
  have Lo := hid hao.1
  clear has' hao
  have i1 : (ms : Int) ≤ 40 := by omega
  have i2 : (40 : Int) < (mo : Int) := by omega
  have Ss1 := Hs
  have So1 := Ho
  have T1 := hid (Chg.refl (fun _ => False) w)
  go_enter Try.func8, Try.ntmps8
  go_wp2_with fail
  refine (anchor_any _).mono ?_
  rintro e w2 ⟨rfl, hc⟩
  have Ss2 := hid (Ss1.out.chg hc (fun _ _ h => h))
  have So2 := hid (So1.out.chg hc (fun _ _ h => h))
  have T2 := hid (T1.out.trans hc (fun _ h _ => h))
  clear hc Ss1 So1 T1
  go_wp2_with fail
  go_ret
  exact ⟨rfl, T2.out.below (Nat.le_refl _) (fun _ h => h.elim)⟩
set_option maxHeartbeats 4000000 in
set_option maxRecDepth 100000 in
theorem both_no1 (w : World) (As : Option Addr) (ms cs : Nat) (qs : List Rg) (has' : Ty.At rgK w (fun k => k < w.heap.size) As ms cs qs) (Ao : Option Addr) (mo co : Nat) (qo : List Rg) (hao : Ty.At rgK w (fun k => k < w.heap.size) Ao mo co qo) (ask : Int) (h1 : ms ≤ 40) (h2 : mo ≤ 40) (hn : nrm qs = false) :
    Calls Try.prog 8 #[.slice As ms cs, .slice Ao mo co, .int .i64 ask] w fun e w' => e = .returned (.bool true) ∧ Below w.heap.size w w' := by
  have Hs := hid has'
  have Ls := hid has'.1
  have Ho := hid hao
  have Lo := hid hao.1
  clear has' hao
  have i1 : (ms : Int) ≤ 40 := by omega
  have i2 : (mo : Int) ≤ 40 := by omega
  have HN := hid hn
  clear hn
  have HB := hid (show (nrm qs && nrm qo) = false by rw [HN.out]; rfl)
  have Ss1 := Hs
  have So1 := Ho
  have T1 := hid (Chg.refl (fun _ => False) w)
  go_enter Try.func8, Try.ntmps8
  go_wp2_with fail
  refine (anchor_any _).mono ?_
  rintro e w2 ⟨rfl, hc⟩
  have Ss2 := hid (Ss1.out.chg hc (fun _ _ h => h))
  have So2 := hid (So1.out.chg hc (fun _ _ h => h))
  have T2 := hid (T1.out.trans hc (fun _ h _ => h))
  clear hc Ss1 So1 T1
  go_wp2_with fail
  refine (ranges_any Ss2.out (by omega)).mono ?_
  rintro e w3 ⟨Ax, cx, rfl, ha, hc⟩
  have Ss3 := hid (Ss2.out.chg hc (fun _ _ h => h))
  have So3 := hid (So2.out.chg hc (fun _ _ h => h))
  have T3 := hid (T2.out.trans hc (fun _ h _ => h))
  clear hc Ss2 So2 T2
  have Sx3 := hid ha
  clear ha
  go_wp2_with fail
  refine (ranges_any So3.out (by omega)).mono ?_
  rintro e w4 ⟨Ay, cy, rfl, ha, hc⟩
  have Ss4 := hid (Ss3.out.chg hc (fun _ _ h => h))
  have So4 := hid (So3.out.chg hc (fun _ _ h => h))
  have Sx4 := hid (Sx3.out.chg hc (fun _ _ h => h))
  have T4 := hid (T3.out.trans hc (fun _ h _ => h))
  clear hc Ss3 So3 Sx3 T3
  have Sy4 := hid ha
  clear ha
  go_wp2_with fail
  refine (no25_any Ss4.out So4.out (by omega) (by omega) HB.out).mono ?_
  rintro e w5 ⟨rfl, hc⟩
  have Ss5 := hid (Ss4.out.chg hc (fun _ _ h => h))
  have So5 := hid (So4.out.chg hc (fun _ _ h => h))
  have Sx5 := hid (Sx4.out.chg hc (fun _ _ h => h))
  have Sy5 := hid (Sy4.out.chg hc (fun _ _ h => h))
  have T5 := hid (T4.out.trans hc (fun _ h _ => h))
  clear hc Ss4 So4 Sx4 Sy4 T4
  go_wp2_with fail
  refine (no26_any Ss5.out So5.out (by omega) (by omega) HB.out).mono ?_
  rintro e w6 ⟨rfl, hc⟩
  have Ss6 := hid (Ss5.out.chg hc (fun _ _ h => h))
  have So6 := hid (So5.out.chg hc (fun _ _ h => h))
  have Sx6 := hid (Sx5.out.chg hc (fun _ _ h => h))
  have Sy6 := hid (Sy5.out.chg hc (fun _ _ h => h))
  have T6 := hid (T5.out.trans hc (fun _ h _ => h))
  clear hc Ss5 So5 Sx5 Sy5 T5
  go_wp2_with fail
  refine (refnormal_any Sx6.out (by omega)).mono ?_
  rintro e w7 ⟨rfl, hc⟩
  have Ss7 := hid (Ss6.out.chg hc (fun _ _ h => h))
  have So7 := hid (So6.out.chg hc (fun _ _ h => h))
  have Sx7 := hid (Sx6.out.chg hc (fun _ _ h => h))
  have Sy7 := hid (Sy6.out.chg hc (fun _ _ h => h))
  have T7 := hid (T6.out.trans hc (fun _ h _ => h))
  clear hc Ss6 So6 Sx6 Sy6 T6
  rw [HN.out]
  go_wp2_with fail
  go_ret
  exact ⟨rfl, T7.out.below (Nat.le_refl _) (fun _ h => h.elim)⟩
set_option maxHeartbeats 4000000 in
set_option maxRecDepth 100000 in
theorem both_no2 (w : World) (As : Option Addr) (ms cs : Nat) (qs : List Rg) (has' : Ty.At rgK w (fun k => k < w.heap.size) As ms cs qs) (Ao : Option Addr) (mo co : Nat) (qo : List Rg) (hao : Ty.At rgK w (fun k => k < w.heap.size) Ao mo co qo) (ask : Int) (h1 : ms ≤ 40) (h2 : mo ≤ 40) (hn : nrm qs = true) (hn2 : nrm qo = false) :
    Calls Try.prog 8 #[.slice As ms cs, .slice Ao mo co, .int .i64 ask] w fun e w' => e = .returned (.bool true) ∧ Below w.heap.size w w' := by
  have Hs := hid has'
  have Ls := hid has'.1
  have Ho := hid hao
  have Lo := hid hao.1
  clear has' hao
  have i1 : (ms : Int) ≤ 40 := by omega
  have i2 : (mo : Int) ≤ 40 := by omega
  have HN := hid hn
  clear hn
  have HN2 := hid hn2
  clear hn2
  have HB := hid (show (nrm qs && nrm qo) = false by rw [HN.out, HN2.out]; rfl)
  have Ss1 := Hs
  have So1 := Ho
  have T1 := hid (Chg.refl (fun _ => False) w)
  go_enter Try.func8, Try.ntmps8
  go_wp2_with fail
  refine (anchor_any _).mono ?_
  rintro e w2 ⟨rfl, hc⟩
  have Ss2 := hid (Ss1.out.chg hc (fun _ _ h => h))
  have So2 := hid (So1.out.chg hc (fun _ _ h => h))
  have T2 := hid (T1.out.trans hc (fun _ h _ => h))
  clear hc Ss1 So1 T1
  go_wp2_with fail
  refine (ranges_any Ss2.out (by omega)).mono ?_
  rintro e w3 ⟨Ax, cx, rfl, ha, hc⟩
  have Ss3 := hid (Ss2.out.chg hc (fun _ _ h => h))
  have So3 := hid (So2.out.chg hc (fun _ _ h => h))
  have T3 := hid (T2.out.trans hc (fun _ h _ => h))
  clear hc Ss2 So2 T2
  have Sx3 := hid ha
  clear ha
  go_wp2_with fail
  refine (ranges_any So3.out (by omega)).mono ?_
  rintro e w4 ⟨Ay, cy, rfl, ha, hc⟩
  have Ss4 := hid (Ss3.out.chg hc (fun _ _ h => h))
  have So4 := hid (So3.out.chg hc (fun _ _ h => h))
  have Sx4 := hid (Sx3.out.chg hc (fun _ _ h => h))
  have T4 := hid (T3.out.trans hc (fun _ h _ => h))
  clear hc Ss3 So3 Sx3 T3
  have Sy4 := hid ha
  clear ha
  go_wp2_with fail
  refine (no25_any Ss4.out So4.out (by omega) (by omega) HB.out).mono ?_
  rintro e w5 ⟨rfl, hc⟩
  have Ss5 := hid (Ss4.out.chg hc (fun _ _ h => h))
  have So5 := hid (So4.out.chg hc (fun _ _ h => h))
  have Sx5 := hid (Sx4.out.chg hc (fun _ _ h => h))
  have Sy5 := hid (Sy4.out.chg hc (fun _ _ h => h))
  have T5 := hid (T4.out.trans hc (fun _ h _ => h))
  clear hc Ss4 So4 Sx4 Sy4 T4
  go_wp2_with fail
  refine (no26_any Ss5.out So5.out (by omega) (by omega) HB.out).mono ?_
  rintro e w6 ⟨rfl, hc⟩
  have Ss6 := hid (Ss5.out.chg hc (fun _ _ h => h))
  have So6 := hid (So5.out.chg hc (fun _ _ h => h))
  have Sx6 := hid (Sx5.out.chg hc (fun _ _ h => h))
  have Sy6 := hid (Sy5.out.chg hc (fun _ _ h => h))
  have T6 := hid (T5.out.trans hc (fun _ h _ => h))
  clear hc Ss5 So5 Sx5 Sy5 T5
  go_wp2_with fail
  refine (refnormal_any Sx6.out (by omega)).mono ?_
  rintro e w7 ⟨rfl, hc⟩
  have Ss7 := hid (Ss6.out.chg hc (fun _ _ h => h))
  have So7 := hid (So6.out.chg hc (fun _ _ h => h))
  have Sx7 := hid (Sx6.out.chg hc (fun _ _ h => h))
  have Sy7 := hid (Sy6.out.chg hc (fun _ _ h => h))
  have T7 := hid (T6.out.trans hc (fun _ h _ => h))
  clear hc Ss6 So6 Sx6 Sy6 T6
  rw [HN.out]
  go_wp2_with fail
  refine (refnormal_any Sy7.out (by omega)).mono ?_
  rintro e w8 ⟨rfl, hc⟩
  have Ss8 := hid (Ss7.out.chg hc (fun _ _ h => h))
  have So8 := hid (So7.out.chg hc (fun _ _ h => h))
  have Sx8 := hid (Sx7.out.chg hc (fun _ _ h => h))
  have Sy8 := hid (Sy7.out.chg hc (fun _ _ h => h))
  have T8 := hid (T7.out.trans hc (fun _ h _ => h))
  clear hc Ss7 So7 Sx7 Sy7 T7
  rw [HN2.out]
  go_wp2_with fail
  go_ret
  exact ⟨rfl, T8.out.below (Nat.le_refl _) (fun _ h => h.elim)⟩
set_option maxHeartbeats 4000000 in
set_option maxRecDepth 100000 in
theorem both_yes (w : World) (As : Option Addr) (ms cs : Nat) (qs : List Rg) (has' : Ty.At rgK w (fun k => k < w.heap.size) As ms cs qs) (Ao : Option Addr) (mo co : Nat) (qo : List Rg) (hao : Ty.At rgK w (fun k => k < w.heap.size) Ao mo co qo) (ask : Int) (hask : (Lit.int .i64 ask).wf = true) (h1 : ms ≤ 40) (h2 : mo ≤ 40) (hn : nrm qs = true) (hn2 : nrm qo = true) :
    Calls Try.prog 8 #[.slice As ms cs, .slice Ao mo co, .int .i64 ask] w fun e w' => e = .returned (.bool true) ∧ Below w.heap.size w w' := by
  have Hs := hid has'
  have Ls := hid has'.1
  have Ho := hid hao
  have Lo := hid hao.1
  clear has' hao
  have i1 : (ms : Int) ≤ 40 := by omega
  have i2 : (mo : Int) ≤ 40 := by omega
  have Ns := hid hn
  have No := hid hn2
  have HW := hid hask
  clear hn hn2 hask
  have Ss1 := Hs
  have So1 := Ho
  have T1 := hid (Chg.refl (fun _ => False) w)
  go_enter Try.func8, Try.ntmps8
  go_wp2_with fail
  refine (anchor_any _).mono ?_
  rintro e w2 ⟨rfl, hc⟩
  have Ss2 := hid (Ss1.out.chg hc (fun _ _ h => h))
  have So2 := hid (So1.out.chg hc (fun _ _ h => h))
  have T2 := hid (T1.out.trans hc (fun _ h _ => h))
  clear hc Ss1 So1 T1
  go_wp2_with fail
  refine (ranges_any Ss2.out (by omega)).mono ?_
  rintro e w3 ⟨Ax, cx, rfl, ha, hc⟩
  have Ss3 := hid (Ss2.out.chg hc (fun _ _ h => h))
  have So3 := hid (So2.out.chg hc (fun _ _ h => h))
  have T3 := hid (T2.out.trans hc (fun _ h _ => h))
  clear hc Ss2 So2 T2
  have Sx3 := hid ha
  clear ha
  go_wp2_with fail
  refine (ranges_any So3.out (by omega)).mono ?_
  rintro e w4 ⟨Ay, cy, rfl, ha, hc⟩
  have Ss4 := hid (Ss3.out.chg hc (fun _ _ h => h))
  have So4 := hid (So3.out.chg hc (fun _ _ h => h))
  have Sx4 := hid (Sx3.out.chg hc (fun _ _ h => h))
  have T4 := hid (T3.out.trans hc (fun _ h _ => h))
  clear hc Ss3 So3 Sx3 T3
  have Sy4 := hid ha
  clear ha
  go_wp2_with fail
  refine (or_ok Ss4.out So4.out (by omega) (by omega) Ns.out No.out).mono ?_
  rintro e w5 ⟨v, qa, rfl, ⟨hn, hh, hl⟩, hv, hc⟩
  obtain ⟨Aa, ca, ma, rfl, hm, ha⟩ := own_form_len hv
  have Na := hid hn
  have Pa := hid hh
  have bda : ma ≤ 80 := by omega
  clear hn hh hl hm hv
  have Ss5 := hid (Ss4.out.chg hc (fun _ _ h => h))
  have So5 := hid (So4.out.chg hc (fun _ _ h => h))
  have Sx5 := hid (Sx4.out.chg hc (fun _ _ h => h))
  have Sy5 := hid (Sy4.out.chg hc (fun _ _ h => h))
  have T5 := hid (T4.out.trans hc (fun _ h _ => h))
  clear hc Ss4 So4 Sx4 Sy4 T4
  have Sa5 := hid ha
  clear ha
  go_wp2_with fail
  refine (and_ok Ss5.out So5.out (by omega) (by omega) Ns.out No.out).mono ?_
  rintro e w6 ⟨v, qb, rfl, ⟨hn, hh, hl⟩, hv, hc⟩
  obtain ⟨Ab, cb, mb, rfl, hm, ha⟩ := own_form_len hv
  have Nb := hid hn
  have Pb := hid hh
  have bdb : mb ≤ 83 := by omega
  clear hn hh hl hm hv
  have Ss6 := hid (Ss5.out.chg hc (fun _ _ h => h))
  have So6 := hid (So5.out.chg hc (fun _ _ h => h))
  have Sx6 := hid (Sx5.out.chg hc (fun _ _ h => h))
  have Sy6 := hid (Sy5.out.chg hc (fun _ _ h => h))
  have Sa6 := hid (Sa5.out.chg hc (fun _ _ h => h))
  have T6 := hid (T5.out.trans hc (fun _ h _ => h))
  clear hc Ss5 So5 Sx5 Sy5 Sa5 T5
  have Sb6 := hid ha
  clear ha
  go_wp2_with fail
  refine (refnormal_any Sx6.out (by omega)).mono ?_
  rintro e w7 ⟨rfl, hc⟩
  have Ss7 := hid (Ss6.out.chg hc (fun _ _ h => h))
  have So7 := hid (So6.out.chg hc (fun _ _ h => h))
  have Sx7 := hid (Sx6.out.chg hc (fun _ _ h => h))
  have Sy7 := hid (Sy6.out.chg hc (fun _ _ h => h))
  have Sa7 := hid (Sa6.out.chg hc (fun _ _ h => h))
  have Sb7 := hid (Sb6.out.chg hc (fun _ _ h => h))
  have T7 := hid (T6.out.trans hc (fun _ h _ => h))
  clear hc Ss6 So6 Sx6 Sy6 Sa6 Sb6 T6
  rw [Ns.out]
  go_wp2_with fail
  refine (refnormal_any Sy7.out (by omega)).mono ?_
  rintro e w8 ⟨rfl, hc⟩
  have Ss8 := hid (Ss7.out.chg hc (fun _ _ h => h))
  have So8 := hid (So7.out.chg hc (fun _ _ h => h))
  have Sx8 := hid (Sx7.out.chg hc (fun _ _ h => h))
  have Sy8 := hid (Sy7.out.chg hc (fun _ _ h => h))
  have Sa8 := hid (Sa7.out.chg hc (fun _ _ h => h))
  have Sb8 := hid (Sb7.out.chg hc (fun _ _ h => h))
  have T8 := hid (T7.out.trans hc (fun _ h _ => h))
  clear hc Ss7 So7 Sx7 Sy7 Sa7 Sb7 T7
  rw [No.out]
  go_wp2_with fail
  refine (edges_any Sx8.out Sy8.out (by omega) (by omega) (nrm_right Ns.out) (nrm_right No.out)).mono ?_
  rintro e W ⟨v, rfl, hO⟩
  obtain ⟨A5, m5, c5, rfl, hm5⟩ := hO.form
  have HO := hid hO
  clear hO
  go_wp2_with (first | (at_builtin; refine int_app w8 W rfl (.tmp 67) (.tmp 69) rfl A5 m5 c5 _ ask rfl HO.out HW.out rfl (by omega) ?_; intro A6 c6 W2 h6 h7; have HO2 := hid h6; clear h6 h7))
  have hc := HO2.out.same
  have Ss9 := hid (Ss8.out.chg hc (fun _ _ h => h))
  have So9 := hid (So8.out.chg hc (fun _ _ h => h))
  have Sx9 := hid (Sx8.out.chg hc (fun _ _ h => h))
  have Sy9 := hid (Sy8.out.chg hc (fun _ _ h => h))
  have Sa9 := hid (Sa8.out.chg hc (fun _ _ h => h))
  have Sb9 := hid (Sb8.out.chg hc (fun _ _ h => h))
  have T9 := hid (T8.out.trans hc (fun _ h _ => h))
  clear hc Ss8 So8 Sx8 Sy8 Sa8 Sb8 T8
  go_loopw [72] (fun i wr => ∃ k : Nat, k ≤ m5 + 1 ∧ i = .int .i64 k ∧ Chg (fun _ => False) W2 wr) (fun i _ => m5 + 1 - (intOf i).toNat)
  case atStart => exact ⟨0, Nat.zero_le _, rfl, Chg.refl _ _⟩
  case round =>
    obtain ⟨j, hj, rfl, hC⟩ := hrel
    have HC := hid hC
    by_cases hjl : j < m5 + 1
    · have hjl2 : (j : Int) < (m5 : Int) + 1 := by omega
      obtain ⟨g, x, hA5, y0, hwx⟩ := (HO2.out.chg hC).get hjl
      subst hA5
      clear hC hwx
      go_wp2_with fail
      refine (refhas_any x (Sx9.out.chg HC.out (fun _ _ h => h)) (by omega)).mono ?_
      rintro e v1 ⟨rfl, rfl⟩
      go_wp2_with fail
      refine (refhas_any x (Sy9.out.chg HC.out (fun _ _ h => h)) (by omega)).mono ?_
      rintro e v2 ⟨rfl, rfl⟩
      go_wp2_with fail
      refine (has_any x (Sa9.out.chg HC.out (fun _ _ h => h)) (by omega)).mono ?_
      rintro e v3 ⟨rfl, h3⟩
      have H3 := hid (HC.out.trans h3 (fun _ h _ => h))
      clear h3 y0
      rw [Pa.out]
      rcases hb1 : has qs x with _ | _ <;> rcases hb2 : has qo x with _ | _
      · have B1 := hid hb1
        have B2 := hid hb2
        clear hb1 hb2
        go_wp2_with fail
        refine (has_any x (Sb9.out.chg H3.out (fun _ _ h => h)) (by omega)).mono ?_
        rintro e v4 ⟨rfl, h4⟩
        have H4 := hid (H3.out.trans h4 (fun _ h _ => h))
        clear h4
        rw [Pb.out, B1.out, B2.out]
        go_wp2_with fail
        go_roundw
        case measure => simp [intOf]; omega
        case rel => first | exact ⟨j + 1, by omega, by go_num, H4.out⟩ | ((repeat apply Exists.intro); exact ⟨⟨j + 1, by omega, by go_num, H4.out⟩, rfl⟩)
      · have B1 := hid hb1
        have B2 := hid hb2
        clear hb1 hb2
        go_wp2_with fail
        refine (has_any x (Sb9.out.chg H3.out (fun _ _ h => h)) (by omega)).mono ?_
        rintro e v4 ⟨rfl, h4⟩
        have H4 := hid (H3.out.trans h4 (fun _ h _ => h))
        clear h4
        rw [Pb.out, B1.out, B2.out]
        go_wp2_with fail
        go_roundw
        case measure => simp [intOf]; omega
        case rel => first | exact ⟨j + 1, by omega, by go_num, H4.out⟩ | ((repeat apply Exists.intro); exact ⟨⟨j + 1, by omega, by go_num, H4.out⟩, rfl⟩)
      · have B1 := hid hb1
        have B2 := hid hb2
        clear hb1 hb2
        go_wp2_with fail
        refine (has_any x (Sb9.out.chg H3.out (fun _ _ h => h)) (by omega)).mono ?_
        rintro e v4 ⟨rfl, h4⟩
        have H4 := hid (H3.out.trans h4 (fun _ h _ => h))
        clear h4
        rw [Pb.out, B1.out, B2.out]
        go_wp2_with fail
        go_roundw
        case measure => simp [intOf]; omega
        case rel => first | exact ⟨j + 1, by omega, by go_num, H4.out⟩ | ((repeat apply Exists.intro); exact ⟨⟨j + 1, by omega, by go_num, H4.out⟩, rfl⟩)
      · have B1 := hid hb1
        have B2 := hid hb2
        clear hb1 hb2
        go_wp2_with fail
        refine (has_any x (Sb9.out.chg H3.out (fun _ _ h => h)) (by omega)).mono ?_
        rintro e v4 ⟨rfl, h4⟩
        have H4 := hid (H3.out.trans h4 (fun _ h _ => h))
        clear h4
        rw [Pb.out, B1.out, B2.out]
        go_wp2_with fail
        go_roundw
        case measure => simp [intOf]; omega
        case rel => first | exact ⟨j + 1, by omega, by go_num, H4.out⟩ | ((repeat apply Exists.intro); exact ⟨⟨j + 1, by omega, by go_num, H4.out⟩, rfl⟩)
    · have hjl2 : ¬ (j : Int) < (m5 : Int) + 1 := by omega
      clear hC
      have hc := HC.out
      have Ss10 := hid (Ss9.out.chg hc (fun _ _ h => h))
      have So10 := hid (So9.out.chg hc (fun _ _ h => h))
      have Sx10 := hid (Sx9.out.chg hc (fun _ _ h => h))
      have Sy10 := hid (Sy9.out.chg hc (fun _ _ h => h))
      have Sa10 := hid (Sa9.out.chg hc (fun _ _ h => h))
      have Sb10 := hid (Sb9.out.chg hc (fun _ _ h => h))
      have T10 := hid (T9.out.trans hc (fun _ h _ => h))
      clear hc Ss9 So9 Sx9 Sy9 Sa9 Sb9 T9
      go_wp2_with fail
      refine (isnormal_any Sa10.out (by omega)).mono ?_
      rintro e w11 ⟨rfl, hc⟩
      have Ss11 := hid (Ss10.out.chg hc (fun _ _ h => h))
      have So11 := hid (So10.out.chg hc (fun _ _ h => h))
      have Sx11 := hid (Sx10.out.chg hc (fun _ _ h => h))
      have Sy11 := hid (Sy10.out.chg hc (fun _ _ h => h))
      have Sa11 := hid (Sa10.out.chg hc (fun _ _ h => h))
      have Sb11 := hid (Sb10.out.chg hc (fun _ _ h => h))
      have T11 := hid (T10.out.trans hc (fun _ h _ => h))
      clear hc Ss10 So10 Sx10 Sy10 Sa10 Sb10 T10
      rw [Na.out]
      go_wp2_with fail
      refine (isnormal_any Sb11.out (by omega)).mono ?_
      rintro e w12 ⟨rfl, hc⟩
      have Ss12 := hid (Ss11.out.chg hc (fun _ _ h => h))
      have So12 := hid (So11.out.chg hc (fun _ _ h => h))
      have Sx12 := hid (Sx11.out.chg hc (fun _ _ h => h))
      have Sy12 := hid (Sy11.out.chg hc (fun _ _ h => h))
      have Sa12 := hid (Sa11.out.chg hc (fun _ _ h => h))
      have Sb12 := hid (Sb11.out.chg hc (fun _ _ h => h))
      have T12 := hid (T11.out.trans hc (fun _ h _ => h))
      clear hc Ss11 So11 Sx11 Sy11 Sa11 Sb11 T11
      rw [Nb.out]
      go_wp2_with fail
      refine (count_any Sa12.out (by omega) Na.out).mono ?_
      rintro e w13 ⟨rfl, hc⟩
      have Ss13 := hid (Ss12.out.chg hc (fun _ _ h => h))
      have So13 := hid (So12.out.chg hc (fun _ _ h => h))
      have Sx13 := hid (Sx12.out.chg hc (fun _ _ h => h))
      have Sy13 := hid (Sy12.out.chg hc (fun _ _ h => h))
      have Sa13 := hid (Sa12.out.chg hc (fun _ _ h => h))
      have Sb13 := hid (Sb12.out.chg hc (fun _ _ h => h))
      have T13 := hid (T12.out.trans hc (fun _ h _ => h))
      clear hc Ss12 So12 Sx12 Sy12 Sa12 Sb12 T12
      go_wp2_with fail
      refine (count_any Sb13.out (by omega) Nb.out).mono ?_
      rintro e w14 ⟨rfl, hc⟩
      have Ss14 := hid (Ss13.out.chg hc (fun _ _ h => h))
      have So14 := hid (So13.out.chg hc (fun _ _ h => h))
      have Sx14 := hid (Sx13.out.chg hc (fun _ _ h => h))
      have Sy14 := hid (Sy13.out.chg hc (fun _ _ h => h))
      have Sa14 := hid (Sa13.out.chg hc (fun _ _ h => h))
      have Sb14 := hid (Sb13.out.chg hc (fun _ _ h => h))
      have T14 := hid (T13.out.trans hc (fun _ h _ => h))
      clear hc Ss13 So13 Sx13 Sy13 Sa13 Sb13 T13
      go_wp2_with fail
      refine (count_any Ss14.out (by omega) Ns.out).mono ?_
      rintro e w15 ⟨rfl, hc⟩
      have Ss15 := hid (Ss14.out.chg hc (fun _ _ h => h))
      have So15 := hid (So14.out.chg hc (fun _ _ h => h))
      have Sx15 := hid (Sx14.out.chg hc (fun _ _ h => h))
      have Sy15 := hid (Sy14.out.chg hc (fun _ _ h => h))
      have Sa15 := hid (Sa14.out.chg hc (fun _ _ h => h))
      have Sb15 := hid (Sb14.out.chg hc (fun _ _ h => h))
      have T15 := hid (T14.out.trans hc (fun _ h _ => h))
      clear hc Ss14 So14 Sx14 Sy14 Sa14 Sb14 T14
      go_wp2_with fail
      refine (count_any So15.out (by omega) No.out).mono ?_
      rintro e w16 ⟨rfl, hc⟩
      have Ss16 := hid (Ss15.out.chg hc (fun _ _ h => h))
      have So16 := hid (So15.out.chg hc (fun _ _ h => h))
      have Sx16 := hid (Sx15.out.chg hc (fun _ _ h => h))
      have Sy16 := hid (Sy15.out.chg hc (fun _ _ h => h))
      have Sa16 := hid (Sa15.out.chg hc (fun _ _ h => h))
      have Sb16 := hid (Sb15.out.chg hc (fun _ _ h => h))
      have T16 := hid (T15.out.trans hc (fun _ h _ => h))
      clear hc Ss15 So15 Sx15 Sy15 Sa15 Sb15 T15
      have hsum : cnt qa + cnt qb = cnt qs + cnt qo := cnt_both Na.out Nb.out Ns.out No.out Pa.out Pb.out
      have la := (cnt_le qa (nrm_right Na.out)).1
      have ua : cnt qa ≤ 1114368 * ma := by have q1 := (cnt_le qa (nrm_right Na.out)).2; rw [← Sa16.out.1] at q1; exact q1
      have lb := (cnt_le qb (nrm_right Nb.out)).1
      have ub : cnt qb ≤ 1114368 * mb := by have q1 := (cnt_le qb (nrm_right Nb.out)).2; rw [← Sb16.out.1] at q1; exact q1
      have ls := (cnt_le qs (nrm_right Ns.out)).1
      have us : cnt qs ≤ 1114368 * ms := by have q1 := (cnt_le qs (nrm_right Ns.out)).2; rw [← Ss16.out.1] at q1; exact q1
      have lo := (cnt_le qo (nrm_right No.out)).1
      have uo : cnt qo ≤ 1114368 * mo := by have q1 := (cnt_le qo (nrm_right No.out)).2; rw [← So16.out.1] at q1; exact q1
      have tta : cnt qa ≤ 100000000 := by omega
      have ttb : cnt qb ≤ 100000000 := by omega
      have tts : cnt qs ≤ 100000000 := by omega
      have tto : cnt qo ≤ 100000000 := by omega
      clear ua ub us uo
      generalize cnt qa = na at hsum la tta ⊢
      generalize cnt qb = nb at hsum lb ttb ⊢
      generalize cnt qs = ns at hsum ls tts ⊢
      generalize cnt qo = no at hsum lo tto ⊢
      have hw1 : wrap64 (ns + no) = ns + no := by unfold wrap64; omega
      go_wp2_with fail
      go_ret
      exact ⟨rfl, T16.out.below (Nat.le_refl _) (fun _ h => h.elim)⟩
theorem ClassBoth_walk (w : World) (As : Option Addr) (ms cs : Nat) (qs : List Rg) (has' : Ty.At rgK w (fun k => k < w.heap.size) As ms cs qs) (Ao : Option Addr) (mo co : Nat) (qo : List Rg) (hao : Ty.At rgK w (fun k => k < w.heap.size) Ao mo co qo) (ask : Int) (hask : (Lit.int .i64 ask).wf = true) :
    Calls Try.prog 8 #[.slice As ms cs, .slice Ao mo co, .int .i64 ask] w fun e w' => e = .returned (.bool true) ∧ Below w.heap.size w w' := by
  by_cases h1 : ms ≤ 40
  · by_cases h2 : mo ≤ 40
    · cases hn : nrm qs
      · exact both_no1 w As ms cs qs has' Ao mo co qo hao ask h1 h2 hn
      · cases hn2 : nrm qo
        · exact both_no2 w As ms cs qs has' Ao mo co qo hao ask h1 h2 hn hn2
        · exact both_yes w As ms cs qs has' Ao mo co qo hao ask hask h1 h2 hn hn2
    · exact both_out2 w As ms cs qs has' Ao mo co qo hao ask h1 (by omega)
  · exact both_out1 w As ms cs qs has' Ao mo co qo hao ask (by omega)
end Go.Proofs.Ytoojifcpjbakgaa.Cl
