/- The walk of the law ClassLaws. (Printed by wip/tools/classlaws.py.) -/
import Derived.Test.YtoojifcpjbakgaaWClassFolds
namespace Go.Proofs.Ytoojifcpjbakgaa.Cl
set_option linter.unusedVariables false
set_option linter.unusedSimpArgs false
open Go.RowKit Go.Proofs.Ytoojifcpjbakgaa.C Go.Shelf
attribute [local go_sem] max2_int min2_int max_two min_two


set_option maxHeartbeats 4000000 in
set_option maxRecDepth 100000 in
theorem laws_out1 (w : World) (As : Option Addr) (ms cs : Nat) (qs : List Rg) (has' : Ty.At rgK w (fun k => k < w.heap.size) As ms cs qs) (Ao : Option Addr) (mo co : Nat) (qo : List Rg) (hao : Ty.At rgK w (fun k => k < w.heap.size) Ao mo co qo) (h1 : 40 < ms) :
    Calls Try.prog 7 #[.slice As ms cs, .slice Ao mo co] w fun e w' => e = .returned (.bool true) ∧ Below w.heap.size w w' := by
  have Hs := hid has'
  have Ls := hid has'.1
  have Ho := hid hao
  have Lo := hid hao.1
  clear has' hao
  have i1 : (40 : Int) < (ms : Int) := by omega
  have Ss1 := Hs
  have So1 := Ho
  have T1 := hid (Chg.refl (fun _ => False) w)
  go_enter Try.func7, Try.ntmps7
  go_wp2_with fail
  refine (anchor_any _).mono ?_
  rintro e w2 ⟨rfl, hc⟩
  have Ss2 := hid (Ss1.out.chg hc (fun _ _ h => h))
  have So2 := hid (So1.out.chg hc (fun _ _ h => h))
  have T2 := hid (T1.out.trans hc (fun _ h _ => h))
  clear hc Ss1 So1 T1
  go_wp2_with fail
  go_ret
  exact ⟨rfl, T2.out.below (Nat.le_refl _) (fun _ h => h.elim)⟩
set_option maxHeartbeats 4000000 in
set_option maxRecDepth 100000 in
theorem laws_out2 (w : World) (As : Option Addr) (ms cs : Nat) (qs : List Rg) (has' : Ty.At rgK w (fun k => k < w.heap.size) As ms cs qs) (Ao : Option Addr) (mo co : Nat) (qo : List Rg) (hao : Ty.At rgK w (fun k => k < w.heap.size) Ao mo co qo) (h1 : ms ≤ 40) (h2 : 40 < mo) :
    Calls Try.prog 7 #[.slice As ms cs, .slice Ao mo co] w fun e w' => e = .returned (.bool true) ∧ Below w.heap.size w w' := by
  have Hs := hid has'
  have Ls := hid has'.1
  have Ho := hid hao
  have Lo := hid hao.1
  clear has' hao
  have i1 : (ms : Int) ≤ 40 := by omega
  have i2 : (40 : Int) < (mo : Int) := by omega
  have Ss1 := Hs
  have So1 := Ho
  have T1 := hid (Chg.refl (fun _ => False) w)
  go_enter Try.func7, Try.ntmps7
  go_wp2_with fail
  refine (anchor_any _).mono ?_
  rintro e w2 ⟨rfl, hc⟩
  have Ss2 := hid (Ss1.out.chg hc (fun _ _ h => h))
  have So2 := hid (So1.out.chg hc (fun _ _ h => h))
  have T2 := hid (T1.out.trans hc (fun _ h _ => h))
  clear hc Ss1 So1 T1
  go_wp2_with fail
  go_ret
  exact ⟨rfl, T2.out.below (Nat.le_refl _) (fun _ h => h.elim)⟩
set_option maxHeartbeats 4000000 in
set_option maxRecDepth 100000 in
theorem laws_out3 (w : World) (As : Option Addr) (ms cs : Nat) (qs : List Rg) (has' : Ty.At rgK w (fun k => k < w.heap.size) As ms cs qs) (Ao : Option Addr) (mo co : Nat) (qo : List Rg) (hao : Ty.At rgK w (fun k => k < w.heap.size) Ao mo co qo) (h1 : ms ≤ 40) (h2 : mo ≤ 40) (hn : nrm qs = false) :
    Calls Try.prog 7 #[.slice As ms cs, .slice Ao mo co] w fun e w' => e = .returned (.bool true) ∧ Below w.heap.size w w' := by
  have Hs := hid has'
  have Ls := hid has'.1
  have Ho := hid hao
  have Lo := hid hao.1
  clear has' hao
  have i1 : (ms : Int) ≤ 40 := by omega
  have i2 : (mo : Int) ≤ 40 := by omega
  have HN := hid hn
  clear hn
  have Ss1 := Hs
  have So1 := Ho
  have T1 := hid (Chg.refl (fun _ => False) w)
  go_enter Try.func7, Try.ntmps7
  go_wp2_with fail
  refine (anchor_any _).mono ?_
  rintro e w2 ⟨rfl, hc⟩
  have Ss2 := hid (Ss1.out.chg hc (fun _ _ h => h))
  have So2 := hid (So1.out.chg hc (fun _ _ h => h))
  have T2 := hid (T1.out.trans hc (fun _ h _ => h))
  clear hc Ss1 So1 T1
  go_wp2_with fail
  refine (isnormal_any Ss2.out (by omega)).mono ?_
  rintro e w3 ⟨rfl, hc⟩
  have Ss3 := hid (Ss2.out.chg hc (fun _ _ h => h))
  have So3 := hid (So2.out.chg hc (fun _ _ h => h))
  have T3 := hid (T2.out.trans hc (fun _ h _ => h))
  clear hc Ss2 So2 T2
  rw [HN.out]
  go_wp2_with fail
  go_ret
  exact ⟨rfl, T3.out.below (Nat.le_refl _) (fun _ h => h.elim)⟩
set_option maxHeartbeats 4000000 in
set_option maxRecDepth 100000 in
theorem laws_out4 (w : World) (As : Option Addr) (ms cs : Nat) (qs : List Rg) (has' : Ty.At rgK w (fun k => k < w.heap.size) As ms cs qs) (Ao : Option Addr) (mo co : Nat) (qo : List Rg) (hao : Ty.At rgK w (fun k => k < w.heap.size) Ao mo co qo) (h1 : ms ≤ 40) (h2 : mo ≤ 40) (hn : nrm qs = true) (hn2 : nrm qo = false) :
    Calls Try.prog 7 #[.slice As ms cs, .slice Ao mo co] w fun e w' => e = .returned (.bool true) ∧ Below w.heap.size w w' := by
  have Hs := hid has'
  have Ls := hid has'.1
  have Ho := hid hao
  have Lo := hid hao.1
  clear has' hao
  have i1 : (ms : Int) ≤ 40 := by omega
  have i2 : (mo : Int) ≤ 40 := by omega
  have HN := hid hn
  clear hn
  have HN2 := hid hn2
  clear hn2
  have Ss1 := Hs
  have So1 := Ho
  have T1 := hid (Chg.refl (fun _ => False) w)
  go_enter Try.func7, Try.ntmps7
  go_wp2_with fail
  refine (anchor_any _).mono ?_
  rintro e w2 ⟨rfl, hc⟩
  have Ss2 := hid (Ss1.out.chg hc (fun _ _ h => h))
  have So2 := hid (So1.out.chg hc (fun _ _ h => h))
  have T2 := hid (T1.out.trans hc (fun _ h _ => h))
  clear hc Ss1 So1 T1
  go_wp2_with fail
  refine (isnormal_any Ss2.out (by omega)).mono ?_
  rintro e w3 ⟨rfl, hc⟩
  have Ss3 := hid (Ss2.out.chg hc (fun _ _ h => h))
  have So3 := hid (So2.out.chg hc (fun _ _ h => h))
  have T3 := hid (T2.out.trans hc (fun _ h _ => h))
  clear hc Ss2 So2 T2
  rw [HN.out]
  go_wp2_with fail
  refine (isnormal_any So3.out (by omega)).mono ?_
  rintro e w4 ⟨rfl, hc⟩
  have Ss4 := hid (Ss3.out.chg hc (fun _ _ h => h))
  have So4 := hid (So3.out.chg hc (fun _ _ h => h))
  have T4 := hid (T3.out.trans hc (fun _ h _ => h))
  clear hc Ss3 So3 T3
  rw [HN2.out]
  go_wp2_with fail
  go_ret
  exact ⟨rfl, T4.out.below (Nat.le_refl _) (fun _ h => h.elim)⟩
set_option maxHeartbeats 4000000 in
set_option maxRecDepth 100000 in
theorem laws_yes (w : World) (As : Option Addr) (ms cs : Nat) (qs : List Rg) (has' : Ty.At rgK w (fun k => k < w.heap.size) As ms cs qs) (Ao : Option Addr) (mo co : Nat) (qo : List Rg) (hao : Ty.At rgK w (fun k => k < w.heap.size) Ao mo co qo) (h1 : ms ≤ 40) (h2 : mo ≤ 40) (hn : nrm qs = true) (hn2 : nrm qo = true) :
    Calls Try.prog 7 #[.slice As ms cs, .slice Ao mo co] w fun e w' => e = .returned (.bool true) ∧ Below w.heap.size w w' := by
  have Hs := hid has'
  have Ls := hid has'.1
  have Ho := hid hao
  have Lo := hid hao.1
  clear has' hao
  have i1 : (ms : Int) ≤ 40 := by omega
  have i2 : (mo : Int) ≤ 40 := by omega
  have Ns := hid hn
  have No := hid hn2
  clear hn hn2
  have Ss1 := Hs
  have So1 := Ho
  have T1 := hid (Chg.refl (fun _ => False) w)
  go_enter Try.func7, Try.ntmps7
  go_wp2_with fail
  refine (anchor_any _).mono ?_
  rintro e w2 ⟨rfl, hc⟩
  have Ss2 := hid (Ss1.out.chg hc (fun _ _ h => h))
  have So2 := hid (So1.out.chg hc (fun _ _ h => h))
  have T2 := hid (T1.out.trans hc (fun _ h _ => h))
  clear hc Ss1 So1 T1
  go_wp2_with fail
  refine (isnormal_any Ss2.out (by omega)).mono ?_
  rintro e w3 ⟨rfl, hc⟩
  have Ss3 := hid (Ss2.out.chg hc (fun _ _ h => h))
  have So3 := hid (So2.out.chg hc (fun _ _ h => h))
  have T3 := hid (T2.out.trans hc (fun _ h _ => h))
  clear hc Ss2 So2 T2
  rw [Ns.out]
  go_wp2_with fail
  refine (isnormal_any So3.out (by omega)).mono ?_
  rintro e w4 ⟨rfl, hc⟩
  have Ss4 := hid (Ss3.out.chg hc (fun _ _ h => h))
  have So4 := hid (So3.out.chg hc (fun _ _ h => h))
  have T4 := hid (T3.out.trans hc (fun _ h _ => h))
  clear hc Ss3 So3 T3
  rw [No.out]
  go_wp2_with fail
  refine (or_ok Ss4.out So4.out (by omega) (by omega) Ns.out No.out).mono ?_
  rintro e w5 ⟨v, qa, rfl, ⟨hn, hh, hl⟩, hv, hc⟩
  obtain ⟨Aa, ca, ma, rfl, hm, ha⟩ := own_form_len hv
  have Na := hid hn
  have Pa := hid hh
  have bda : ma ≤ 80 := by omega
  clear hn hh hl hm hv
  have Ss5 := hid (Ss4.out.chg hc (fun _ _ h => h))
  have So5 := hid (So4.out.chg hc (fun _ _ h => h))
  have T5 := hid (T4.out.trans hc (fun _ h _ => h))
  clear hc Ss4 So4 T4
  have Sa5 := hid ha
  clear ha
  go_wp2_with fail
  refine (or_ok So5.out Ss5.out (by omega) (by omega) No.out Ns.out).mono ?_
  rintro e w6 ⟨v, qb, rfl, ⟨hn, hh, hl⟩, hv, hc⟩
  obtain ⟨Ab, cb, mb, rfl, hm, ha⟩ := own_form_len hv
  have Nb := hid hn
  have Pb := hid hh
  have bdb : mb ≤ 80 := by omega
  clear hn hh hl hm hv
  have Ss6 := hid (Ss5.out.chg hc (fun _ _ h => h))
  have So6 := hid (So5.out.chg hc (fun _ _ h => h))
  have Sa6 := hid (Sa5.out.chg hc (fun _ _ h => h))
  have T6 := hid (T5.out.trans hc (fun _ h _ => h))
  clear hc Ss5 So5 Sa5 T5
  have Sb6 := hid ha
  clear ha
  go_wp2_with fail
  refine (and_ok Ss6.out So6.out (by omega) (by omega) Ns.out No.out).mono ?_
  rintro e w7 ⟨v, qc, rfl, ⟨hn, hh, hl⟩, hv, hc⟩
  obtain ⟨Ac, cc, mc, rfl, hm, ha⟩ := own_form_len hv
  have Nc := hid hn
  have Pc := hid hh
  have bdc : mc ≤ 83 := by omega
  clear hn hh hl hm hv
  have Ss7 := hid (Ss6.out.chg hc (fun _ _ h => h))
  have So7 := hid (So6.out.chg hc (fun _ _ h => h))
  have Sa7 := hid (Sa6.out.chg hc (fun _ _ h => h))
  have Sb7 := hid (Sb6.out.chg hc (fun _ _ h => h))
  have T7 := hid (T6.out.trans hc (fun _ h _ => h))
  clear hc Ss6 So6 Sa6 Sb6 T6
  have Sc7 := hid ha
  clear ha
  go_wp2_with fail
  refine (and_ok So7.out Ss7.out (by omega) (by omega) No.out Ns.out).mono ?_
  rintro e w8 ⟨v, qd, rfl, ⟨hn, hh, hl⟩, hv, hc⟩
  obtain ⟨Ad, cd, md, rfl, hm, ha⟩ := own_form_len hv
  have Nd := hid hn
  have Pd := hid hh
  have bdd : md ≤ 83 := by omega
  clear hn hh hl hm hv
  have Ss8 := hid (Ss7.out.chg hc (fun _ _ h => h))
  have So8 := hid (So7.out.chg hc (fun _ _ h => h))
  have Sa8 := hid (Sa7.out.chg hc (fun _ _ h => h))
  have Sb8 := hid (Sb7.out.chg hc (fun _ _ h => h))
  have Sc8 := hid (Sc7.out.chg hc (fun _ _ h => h))
  have T8 := hid (T7.out.trans hc (fun _ h _ => h))
  clear hc Ss7 So7 Sa7 Sb7 Sc7 T7
  have Sd8 := hid ha
  clear ha
  go_wp2_with fail
  refine (Not_ok Sa8.out (by omega) Na.out).mono ?_
  rintro e w9 ⟨v, qp, rfl, Ep, hv, hc⟩
  obtain ⟨Ap, cp, mp, rfl, hm, ha⟩ := own_form_len hv
  have Np := hid (show nrm qp = true by rw [Ep]; exact not_nrm Na.out)
  have Pp := hid (show ∀ u, has qp u = decide (0 ≤ u ∧ u ≤ 1114367 ∧ has qa u = false) from fun u => by rw [Ep]; exact not_has Na.out u)
  have bdp : mp ≤ 81 := by have q1 := And.intro (notFrom_len qa 0) Sa8.out.1; rw [hm, Ep]; unfold not_; omega
  clear Ep hm hv
  have Ss9 := hid (Ss8.out.chg hc (fun _ _ h => h))
  have So9 := hid (So8.out.chg hc (fun _ _ h => h))
  have Sa9 := hid (Sa8.out.chg hc (fun _ _ h => h))
  have Sb9 := hid (Sb8.out.chg hc (fun _ _ h => h))
  have Sc9 := hid (Sc8.out.chg hc (fun _ _ h => h))
  have Sd9 := hid (Sd8.out.chg hc (fun _ _ h => h))
  have T9 := hid (T8.out.trans hc (fun _ h _ => h))
  clear hc Ss8 So8 Sa8 Sb8 Sc8 Sd8 T8
  have Sp9 := hid ha
  clear ha
  go_wp2_with fail
  refine (Not_ok Ss9.out (by omega) Ns.out).mono ?_
  rintro e w10 ⟨v, qx, rfl, Ex, hv, hc⟩
  obtain ⟨Ax, cx, mx, rfl, hm, ha⟩ := own_form_len hv
  have Nx := hid (show nrm qx = true by rw [Ex]; exact not_nrm Ns.out)
  have Px := hid (show ∀ u, has qx u = decide (0 ≤ u ∧ u ≤ 1114367 ∧ has qs u = false) from fun u => by rw [Ex]; exact not_has Ns.out u)
  have bdx : mx ≤ 41 := by have q1 := And.intro (notFrom_len qs 0) Ss9.out.1; rw [hm, Ex]; unfold not_; omega
  clear Ex hm hv
  have Ss10 := hid (Ss9.out.chg hc (fun _ _ h => h))
  have So10 := hid (So9.out.chg hc (fun _ _ h => h))
  have Sa10 := hid (Sa9.out.chg hc (fun _ _ h => h))
  have Sb10 := hid (Sb9.out.chg hc (fun _ _ h => h))
  have Sc10 := hid (Sc9.out.chg hc (fun _ _ h => h))
  have Sd10 := hid (Sd9.out.chg hc (fun _ _ h => h))
  have Sp10 := hid (Sp9.out.chg hc (fun _ _ h => h))
  have T10 := hid (T9.out.trans hc (fun _ h _ => h))
  clear hc Ss9 So9 Sa9 Sb9 Sc9 Sd9 Sp9 T9
  have Sx10 := hid ha
  clear ha
  go_wp2_with fail
  refine (Not_ok So10.out (by omega) No.out).mono ?_
  rintro e w11 ⟨v, qy, rfl, Ey, hv, hc⟩
  obtain ⟨Ay, cy, my, rfl, hm, ha⟩ := own_form_len hv
  have Ny := hid (show nrm qy = true by rw [Ey]; exact not_nrm No.out)
  have Py := hid (show ∀ u, has qy u = decide (0 ≤ u ∧ u ≤ 1114367 ∧ has qo u = false) from fun u => by rw [Ey]; exact not_has No.out u)
  have bdy : my ≤ 41 := by have q1 := And.intro (notFrom_len qo 0) So10.out.1; rw [hm, Ey]; unfold not_; omega
  clear Ey hm hv
  have Ss11 := hid (Ss10.out.chg hc (fun _ _ h => h))
  have So11 := hid (So10.out.chg hc (fun _ _ h => h))
  have Sa11 := hid (Sa10.out.chg hc (fun _ _ h => h))
  have Sb11 := hid (Sb10.out.chg hc (fun _ _ h => h))
  have Sc11 := hid (Sc10.out.chg hc (fun _ _ h => h))
  have Sd11 := hid (Sd10.out.chg hc (fun _ _ h => h))
  have Sp11 := hid (Sp10.out.chg hc (fun _ _ h => h))
  have Sx11 := hid (Sx10.out.chg hc (fun _ _ h => h))
  have T11 := hid (T10.out.trans hc (fun _ h _ => h))
  clear hc Ss10 So10 Sa10 Sb10 Sc10 Sd10 Sp10 Sx10 T10
  have Sy11 := hid ha
  clear ha
  go_wp2_with fail
  refine (and_ok Sx11.out Sy11.out (by omega) (by omega) Nx.out Ny.out).mono ?_
  rintro e w12 ⟨v, qz, rfl, ⟨hn, hh, hl⟩, hv, hc⟩
  obtain ⟨Az, cz, mz, rfl, hm, ha⟩ := own_form_len hv
  have Nz := hid hn
  have Pz := hid hh
  have bdz : mz ≤ 85 := by omega
  clear hn hh hl hm hv
  have Ss12 := hid (Ss11.out.chg hc (fun _ _ h => h))
  have So12 := hid (So11.out.chg hc (fun _ _ h => h))
  have Sa12 := hid (Sa11.out.chg hc (fun _ _ h => h))
  have Sb12 := hid (Sb11.out.chg hc (fun _ _ h => h))
  have Sc12 := hid (Sc11.out.chg hc (fun _ _ h => h))
  have Sd12 := hid (Sd11.out.chg hc (fun _ _ h => h))
  have Sp12 := hid (Sp11.out.chg hc (fun _ _ h => h))
  have Sx12 := hid (Sx11.out.chg hc (fun _ _ h => h))
  have Sy12 := hid (Sy11.out.chg hc (fun _ _ h => h))
  have T12 := hid (T11.out.trans hc (fun _ h _ => h))
  clear hc Ss11 So11 Sa11 Sb11 Sc11 Sd11 Sp11 Sx11 Sy11 T11
  have Sz12 := hid ha
  clear ha
  go_wp2_with fail
  refine (or_ok Ss12.out Ss12.out (by omega) (by omega) Ns.out Ns.out).mono ?_
  rintro e w13 ⟨v, qr, rfl, ⟨hn, hh, hl⟩, hv, hc⟩
  obtain ⟨Ar, cr, mr, rfl, hm, ha⟩ := own_form_len hv
  have Nr := hid hn
  have Pr := hid hh
  have bdr : mr ≤ 80 := by omega
  clear hn hh hl hm hv
  have Ss13 := hid (Ss12.out.chg hc (fun _ _ h => h))
  have So13 := hid (So12.out.chg hc (fun _ _ h => h))
  have Sa13 := hid (Sa12.out.chg hc (fun _ _ h => h))
  have Sb13 := hid (Sb12.out.chg hc (fun _ _ h => h))
  have Sc13 := hid (Sc12.out.chg hc (fun _ _ h => h))
  have Sd13 := hid (Sd12.out.chg hc (fun _ _ h => h))
  have Sp13 := hid (Sp12.out.chg hc (fun _ _ h => h))
  have Sx13 := hid (Sx12.out.chg hc (fun _ _ h => h))
  have Sy13 := hid (Sy12.out.chg hc (fun _ _ h => h))
  have Sz13 := hid (Sz12.out.chg hc (fun _ _ h => h))
  have T13 := hid (T12.out.trans hc (fun _ h _ => h))
  clear hc Ss12 So12 Sa12 Sb12 Sc12 Sd12 Sp12 Sx12 Sy12 Sz12 T12
  have Sr13 := hid ha
  clear ha
  go_wp2_with fail
  refine (and_ok Ss13.out Sa13.out (by omega) (by omega) Ns.out Na.out).mono ?_
  rintro e w14 ⟨v, qt, rfl, ⟨hn, hh, hl⟩, hv, hc⟩
  obtain ⟨At, ct, mt, rfl, hm, ha⟩ := own_form_len hv
  have Nt := hid hn
  have Pt := hid hh
  have bdt : mt ≤ 123 := by omega
  clear hn hh hl hm hv
  have Ss14 := hid (Ss13.out.chg hc (fun _ _ h => h))
  have So14 := hid (So13.out.chg hc (fun _ _ h => h))
  have Sa14 := hid (Sa13.out.chg hc (fun _ _ h => h))
  have Sb14 := hid (Sb13.out.chg hc (fun _ _ h => h))
  have Sc14 := hid (Sc13.out.chg hc (fun _ _ h => h))
  have Sd14 := hid (Sd13.out.chg hc (fun _ _ h => h))
  have Sp14 := hid (Sp13.out.chg hc (fun _ _ h => h))
  have Sx14 := hid (Sx13.out.chg hc (fun _ _ h => h))
  have Sy14 := hid (Sy13.out.chg hc (fun _ _ h => h))
  have Sz14 := hid (Sz13.out.chg hc (fun _ _ h => h))
  have Sr14 := hid (Sr13.out.chg hc (fun _ _ h => h))
  have T14 := hid (T13.out.trans hc (fun _ h _ => h))
  clear hc Ss13 So13 Sa13 Sb13 Sc13 Sd13 Sp13 Sx13 Sy13 Sz13 Sr13 T13
  have St14 := hid ha
  clear ha
  have Eab := hid (show qa = qb from ext Na.out Nb.out (fun u => by rw [Pa.out, Pb.out, Bool.or_comm]))
  have Ecd := hid (show qc = qd from ext Nc.out Nd.out (fun u => by rw [Pc.out, Pd.out, Bool.and_comm]))
  have Epz := hid (show qp = qz from ext Np.out Nz.out (fun u => by
    rw [Pp.out, Pz.out, Px.out, Py.out, Pa.out, Bool.eq_iff_iff]
    cases h1 : has qs u <;> cases h2 : has qo u <;> simp))
  have Ers := hid (show qr = qs from ext Nr.out Ns.out (fun u => by rw [Pr.out, Bool.or_self]))
  have Ets := hid (show qt = qs from ext Nt.out Ns.out (fun u => by rw [Pt.out, Pa.out]; cases has qs u <;> simp))
  go_wp2_with fail
  refine (same_any Sa14.out Sb14.out (by omega) (by omega)).mono ?_
  rintro e w15 ⟨rfl, hc⟩
  have Ss15 := hid (Ss14.out.chg hc (fun _ _ h => h))
  have So15 := hid (So14.out.chg hc (fun _ _ h => h))
  have Sa15 := hid (Sa14.out.chg hc (fun _ _ h => h))
  have Sb15 := hid (Sb14.out.chg hc (fun _ _ h => h))
  have Sc15 := hid (Sc14.out.chg hc (fun _ _ h => h))
  have Sd15 := hid (Sd14.out.chg hc (fun _ _ h => h))
  have Sp15 := hid (Sp14.out.chg hc (fun _ _ h => h))
  have Sx15 := hid (Sx14.out.chg hc (fun _ _ h => h))
  have Sy15 := hid (Sy14.out.chg hc (fun _ _ h => h))
  have Sz15 := hid (Sz14.out.chg hc (fun _ _ h => h))
  have Sr15 := hid (Sr14.out.chg hc (fun _ _ h => h))
  have St15 := hid (St14.out.chg hc (fun _ _ h => h))
  have T15 := hid (T14.out.trans hc (fun _ h _ => h))
  clear hc Ss14 So14 Sa14 Sb14 Sc14 Sd14 Sp14 Sx14 Sy14 Sz14 Sr14 St14 T14
  rw [decide_eq_true Eab.out]
  go_wp2_with fail
  refine (same_any Sc15.out Sd15.out (by omega) (by omega)).mono ?_
  rintro e w16 ⟨rfl, hc⟩
  have Ss16 := hid (Ss15.out.chg hc (fun _ _ h => h))
  have So16 := hid (So15.out.chg hc (fun _ _ h => h))
  have Sa16 := hid (Sa15.out.chg hc (fun _ _ h => h))
  have Sb16 := hid (Sb15.out.chg hc (fun _ _ h => h))
  have Sc16 := hid (Sc15.out.chg hc (fun _ _ h => h))
  have Sd16 := hid (Sd15.out.chg hc (fun _ _ h => h))
  have Sp16 := hid (Sp15.out.chg hc (fun _ _ h => h))
  have Sx16 := hid (Sx15.out.chg hc (fun _ _ h => h))
  have Sy16 := hid (Sy15.out.chg hc (fun _ _ h => h))
  have Sz16 := hid (Sz15.out.chg hc (fun _ _ h => h))
  have Sr16 := hid (Sr15.out.chg hc (fun _ _ h => h))
  have St16 := hid (St15.out.chg hc (fun _ _ h => h))
  have T16 := hid (T15.out.trans hc (fun _ h _ => h))
  clear hc Ss15 So15 Sa15 Sb15 Sc15 Sd15 Sp15 Sx15 Sy15 Sz15 Sr15 St15 T15
  rw [decide_eq_true Ecd.out]
  go_wp2_with fail
  refine (same_any Sp16.out Sz16.out (by omega) (by omega)).mono ?_
  rintro e w17 ⟨rfl, hc⟩
  have Ss17 := hid (Ss16.out.chg hc (fun _ _ h => h))
  have So17 := hid (So16.out.chg hc (fun _ _ h => h))
  have Sa17 := hid (Sa16.out.chg hc (fun _ _ h => h))
  have Sb17 := hid (Sb16.out.chg hc (fun _ _ h => h))
  have Sc17 := hid (Sc16.out.chg hc (fun _ _ h => h))
  have Sd17 := hid (Sd16.out.chg hc (fun _ _ h => h))
  have Sp17 := hid (Sp16.out.chg hc (fun _ _ h => h))
  have Sx17 := hid (Sx16.out.chg hc (fun _ _ h => h))
  have Sy17 := hid (Sy16.out.chg hc (fun _ _ h => h))
  have Sz17 := hid (Sz16.out.chg hc (fun _ _ h => h))
  have Sr17 := hid (Sr16.out.chg hc (fun _ _ h => h))
  have St17 := hid (St16.out.chg hc (fun _ _ h => h))
  have T17 := hid (T16.out.trans hc (fun _ h _ => h))
  clear hc Ss16 So16 Sa16 Sb16 Sc16 Sd16 Sp16 Sx16 Sy16 Sz16 Sr16 St16 T16
  rw [decide_eq_true Epz.out]
  go_wp2_with fail
  refine (same_any Sr17.out Ss17.out (by omega) (by omega)).mono ?_
  rintro e w18 ⟨rfl, hc⟩
  have Ss18 := hid (Ss17.out.chg hc (fun _ _ h => h))
  have So18 := hid (So17.out.chg hc (fun _ _ h => h))
  have Sa18 := hid (Sa17.out.chg hc (fun _ _ h => h))
  have Sb18 := hid (Sb17.out.chg hc (fun _ _ h => h))
  have Sc18 := hid (Sc17.out.chg hc (fun _ _ h => h))
  have Sd18 := hid (Sd17.out.chg hc (fun _ _ h => h))
  have Sp18 := hid (Sp17.out.chg hc (fun _ _ h => h))
  have Sx18 := hid (Sx17.out.chg hc (fun _ _ h => h))
  have Sy18 := hid (Sy17.out.chg hc (fun _ _ h => h))
  have Sz18 := hid (Sz17.out.chg hc (fun _ _ h => h))
  have Sr18 := hid (Sr17.out.chg hc (fun _ _ h => h))
  have St18 := hid (St17.out.chg hc (fun _ _ h => h))
  have T18 := hid (T17.out.trans hc (fun _ h _ => h))
  clear hc Ss17 So17 Sa17 Sb17 Sc17 Sd17 Sp17 Sx17 Sy17 Sz17 Sr17 St17 T17
  rw [decide_eq_true Ers.out]
  go_wp2_with fail
  refine (same_any St18.out Ss18.out (by omega) (by omega)).mono ?_
  rintro e w19 ⟨rfl, hc⟩
  have Ss19 := hid (Ss18.out.chg hc (fun _ _ h => h))
  have So19 := hid (So18.out.chg hc (fun _ _ h => h))
  have Sa19 := hid (Sa18.out.chg hc (fun _ _ h => h))
  have Sb19 := hid (Sb18.out.chg hc (fun _ _ h => h))
  have Sc19 := hid (Sc18.out.chg hc (fun _ _ h => h))
  have Sd19 := hid (Sd18.out.chg hc (fun _ _ h => h))
  have Sp19 := hid (Sp18.out.chg hc (fun _ _ h => h))
  have Sx19 := hid (Sx18.out.chg hc (fun _ _ h => h))
  have Sy19 := hid (Sy18.out.chg hc (fun _ _ h => h))
  have Sz19 := hid (Sz18.out.chg hc (fun _ _ h => h))
  have Sr19 := hid (Sr18.out.chg hc (fun _ _ h => h))
  have St19 := hid (St18.out.chg hc (fun _ _ h => h))
  have T19 := hid (T18.out.trans hc (fun _ h _ => h))
  clear hc Ss18 So18 Sa18 Sb18 Sc18 Sd18 Sp18 Sx18 Sy18 Sz18 Sr18 St18 T18
  rw [decide_eq_true Ets.out]
  go_wp2_with fail
  go_ret
  exact ⟨rfl, T19.out.below (Nat.le_refl _) (fun _ h => h.elim)⟩
theorem ClassLaws_walk (w : World) (As : Option Addr) (ms cs : Nat) (qs : List Rg) (has' : Ty.At rgK w (fun k => k < w.heap.size) As ms cs qs) (Ao : Option Addr) (mo co : Nat) (qo : List Rg) (hao : Ty.At rgK w (fun k => k < w.heap.size) Ao mo co qo) :
    Calls Try.prog 7 #[.slice As ms cs, .slice Ao mo co] w fun e w' => e = .returned (.bool true) ∧ Below w.heap.size w w' := by
  by_cases h1 : ms ≤ 40
  · by_cases h2 : mo ≤ 40
    · cases hn : nrm qs
      · exact laws_out3 w As ms cs qs has' Ao mo co qo hao h1 h2 hn
      · cases hn2 : nrm qo
        · exact laws_out4 w As ms cs qs has' Ao mo co qo hao h1 h2 hn hn2
        · exact laws_yes w As ms cs qs has' Ao mo co qo hao h1 h2 hn hn2
    · exact laws_out2 w As ms cs qs has' Ao mo co qo hao h1 (by omega)
  · exact laws_out1 w As ms cs qs has' Ao mo co qo hao (by omega)
end Go.Proofs.Ytoojifcpjbakgaa.Cl
