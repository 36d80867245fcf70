/- Texts of this claim, one behind the other: RepW, RepX, RepY. -/
import Derived.Test.YtaldoajdhbndhaaMD

/- Submit. -/

namespace Go.Proofs.Ytaldoajdhbndhaa.Pa

set_option linter.unusedVariables false

set_option linter.unusedSimpArgs false

open Go.RowKit Go.Proofs.Ytaldoajdhbndhaa.C

attribute [local go_sem] max2_int min2_int max_two min_two

theorem out_nil {r : Rp} (h : r.out = []) : { r with out := [] } = r := by rw [← h]
/-- Nothing was done. -/
theorem Stood.none_ {w w' : World} {p b1 b2 b3 : Nat} {X : Nat → Prop} {r : Rp} {A : Option Addr} {n c : Nat} {e' : Ending} {v : Value → Value} (h : Rep w w p b1 b2 b3 X r A n c (.slice none 0 0)) (ho : r.out = []) (hc : Chg (fun _ => False) w w') (he : e' = .returned (v (.slice none 0 0))) : Stood w p b1 b2 b3 X r v e' w' :=
  ⟨_, he, ⟨A, n, c, by rw [out_nil ho]; exact h.far hc⟩, by rw [ho]; exact Vec.nil _ _ _ _ _, hc.mono (fun _ h _ => h.elim)⟩
theorem EntryAt.view {w : World} {S : Nat → Prop} {e : Entry} {A1 : Option Addr} {n1 c1 : Nat} {A2 : Option Addr} {n2 c2 : Nat} (h : EntryAt w S e A1 n1 c1 A2 n2 c2) {v : Int} (hv : NumW v) : EntryAt w S { e with view := v } A1 n1 c1 A2 n2 c2 := by
  refine ⟨fun u hu => ?_, h.2.1, h.2.2⟩
  simp only [Entry.nums, List.mem_cons] at hu
  rcases hu with hu | hu
  · rw [hu]; exact hv
  · exact h.1 u (by simp only [Entry.nums, List.mem_cons]; exact .inr hu)
set_option maxHeartbeats 4000000 in
set_option maxRecDepth 100000 in
theorem submit_any {w : World} {p b1 b2 b3 : Nat} {X : Nat → Prop} {r : Rp} {A : Option Addr} {n c : Nat} (h : Rep w w p b1 b2 b3 X r A n c (.slice none 0 0)) {e : Entry} {R : Nat → Prop} {E1 : Option Addr} {m1 d1 : Nat} {E2 : Option Addr} {m2 d2 : Nat} (he : EntryAt w R e E1 m1 d1 E2 m2 d2) (hok : RpOk r) (ho : r.out = []) :
    Calls Try.prog 40 #[.pointer (some ⟨p, 0, none⟩), .agg #[.int .i64 e.view, .int .i64 e.client, .int .i64 e.request, .int .i64 e.dflt, .int .i64 e.closed, .int .i64 e.fuel, .int .i64 e.stack, .slice E1 m1 d1, .slice E2 m2 d2]] w (Stood w p b1 b2 b3 X (submitR r e).1 (fun O => .tuple #[O, .int .i64 (submitR r e).2])) := by
  obtain ⟨w1, hw1⟩ : ∃ q_, q_ = (w.alloc (.cells #[.int .i64 e.view, .int .i64 e.client, .int .i64 e.request, .int .i64 e.dflt, .int .i64 e.closed, .int .i64 e.fuel, .int .i64 e.stack, .slice E1 m1 d1, .slice E2 m2 d2] 56)) := ⟨_, rfl⟩
  have C1 := hid (show Chg (fun _ => False) w w1 by rw [hw1]; exact (Chg.refl _ w).alloc _)
  have BX := hid (show w1.heap[w.heap.size]? = some (.cells #[.int .i64 e.view, .int .i64 e.client, .int .i64 e.request, .int .i64 e.dflt, .int .i64 e.closed, .int .i64 e.fuel, .int .i64 e.stack, .slice E1 m1 d1, .slice E2 m2 d2] 56 (0, 0)) by
    rw [hw1]
    have := blk_new w (.cells #[.int .i64 e.view, .int .i64 e.client, .int .i64 e.request, .int .i64 e.dflt, .int .i64 e.closed, .int .i64 e.fuel, .int .i64 e.stack, .slice E1 m1 d1, .slice E2 m2 d2] 56)
    simpa using this)
  have SZ := hid (show w1.heap.size = w.heap.size + 1 by rw [hw1]; simp)
  have H1 := hid (h.far C1.out)
  obtain ⟨b, hb⟩ : ∃ q_, q_ = w.heap.size := ⟨_, rfl⟩
  have HBb := hid hb
  replace BX := hid (show w1.heap[b]? = some (.cells #[.int .i64 e.view, .int .i64 e.client, .int .i64 e.request, .int .i64 e.dflt, .int .i64 e.closed, .int .i64 e.fuel, .int .i64 e.stack, .slice E1 m1 d1, .slice E2 m2 d2] 56 (0, 0)) by rw [hb]; exact BX.out)
  have HSZ := hid (show w1.heap.size = b + 1 by rw [hb]; exact SZ.out)
  have HPB := hid (show p < b by rw [hb]; exact lt_of_blk h.blk)
  have HW0 := hid (show w.heap.size ≤ b by rw [hb]; exact Nat.le_refl _)
  have HH := hid h
  have HE := hid (EntryAt.mono (EntryAt.chg (EntryAt.bound he) C1.out (fun _ _ h => h)) (fun k hk => (show R k ∧ k < w.heap.size from hk)))
  have HOK := hid hok
  have HO := hid ho
  have HST := hid hok.stn
  have L1 := hid h.log.1
  have HN := hid (show n ≤ 64 by have h1 := hok.stn.2.2.1; have h2 := h.log.1; omega)
  have HPBN := hid (show ¬ b = p by have := HPB.out; omega)
  have hro : roleR r = 0 ∨ roleR r = 1 ∨ roleR r = 2 := by unfold roleR; split; exact .inr (.inr rfl); split; exact .inr (.inl rfl); exact .inl rfl
  have HRO := hid hro
  clear h he hok ho hro
  go_enter Try.func40, Try.ntmps40
  go_wp2_with fail
  rw [← hw1, ← hb]
  clear hw1 hb SZ
  refine (role_any H1.out HOK.out.cfg.1 HST.out.1).mono ?_
  rintro e' w2 ⟨rfl, k2⟩
  have K := hid (show Chg (fun _ => False) w w2 from C1.out.trans k2 (fun _ h _ => h))
  replace BX := hid (k2.blk BX.out (fun h => h))
  replace HE := hid (HE.out.chg k2 (fun _ _ h => h))
  clear k2
  by_cases hr1 : roleR r = 1
  case neg =>
    have hr2 : (roleR r != 1) = true := by simp [hr1]
    have HR := hid (show roleR r ≠ 1 from hr1)
    clear hr1
    go_wp2_with fail
    go_ret2
    have e1 : submitR r e = (r, 50) := by unfold submitR; rw [if_pos HR.out]
    rw [e1]
    exact Stood.none_ HH.out HO.out K.out rfl
  have hr2 : (roleR r != 1) = false := by simp [hr1]
  have HR := hid (show ¬ roleR r ≠ 1 from fun h => h hr1)
  clear hr1
  have X_0 : w2.cell? ⟨b, 0, none⟩ = some (.int .i64 e.view) := (cellAt BX.out 0).trans rfl
  have X_1 : w2.cell? ⟨b, 1, none⟩ = some (.int .i64 e.client) := (cellAt BX.out 1).trans rfl
  have X_2 : w2.cell? ⟨b, 2, none⟩ = some (.int .i64 e.request) := (cellAt BX.out 2).trans rfl
  have X_3 : w2.cell? ⟨b, 3, none⟩ = some (.int .i64 e.dflt) := (cellAt BX.out 3).trans rfl
  have X_4 : w2.cell? ⟨b, 4, none⟩ = some (.int .i64 e.closed) := (cellAt BX.out 4).trans rfl
  have X_5 : w2.cell? ⟨b, 5, none⟩ = some (.int .i64 e.fuel) := (cellAt BX.out 5).trans rfl
  have X_6 : w2.cell? ⟨b, 6, none⟩ = some (.int .i64 e.stack) := (cellAt BX.out 6).trans rfl
  have X_7 : w2.cell? ⟨b, 7, none⟩ = some (.slice E1 m1 d1) := (cellAt BX.out 7).trans rfl
  have X_8 : w2.cell? ⟨b, 8, none⟩ = some (.slice E2 m2 d2) := (cellAt BX.out 8).trans rfl
  go_wp2_with fail
  clear X_0 X_1 X_2 X_3 X_4 X_5 X_6 X_7 X_8 hr2
  refine (entryright_any HE.out).mono ?_
  rintro e' w3 ⟨rfl, k3⟩
  replace K := hid (K.out.trans k3 (fun _ h _ => h))
  replace BX := hid (k3.blk BX.out (fun h => h))
  replace HE := hid (HE.out.chg k3 (fun _ _ h => h))
  clear k3
  cases her : entryR e
  case false =>
    have HER := hid her
    clear her
    go_wp2_with fail
    go_ret2
    have e1 : submitR r e = (r, 10) := by unfold submitR; rw [if_neg HR.out, if_pos HER.out]
    rw [e1]
    exact Stood.none_ HH.out HO.out K.out rfl
  have HER := hid her
  have HERN := hid (show ¬ entryR e = false by rw [her]; decide)
  clear her
  have X_0 : w3.cell? ⟨b, 0, none⟩ = some (.int .i64 e.view) := (cellAt BX.out 0).trans rfl
  have X_1 : w3.cell? ⟨b, 1, none⟩ = some (.int .i64 e.client) := (cellAt BX.out 1).trans rfl
  have X_2 : w3.cell? ⟨b, 2, none⟩ = some (.int .i64 e.request) := (cellAt BX.out 2).trans rfl
  have X_3 : w3.cell? ⟨b, 3, none⟩ = some (.int .i64 e.dflt) := (cellAt BX.out 3).trans rfl
  have X_4 : w3.cell? ⟨b, 4, none⟩ = some (.int .i64 e.closed) := (cellAt BX.out 4).trans rfl
  have X_5 : w3.cell? ⟨b, 5, none⟩ = some (.int .i64 e.fuel) := (cellAt BX.out 5).trans rfl
  have X_6 : w3.cell? ⟨b, 6, none⟩ = some (.int .i64 e.stack) := (cellAt BX.out 6).trans rfl
  have X_7 : w3.cell? ⟨b, 7, none⟩ = some (.slice E1 m1 d1) := (cellAt BX.out 7).trans rfl
  have X_8 : w3.cell? ⟨b, 8, none⟩ = some (.slice E2 m2 d2) := (cellAt BX.out 8).trans rfl
  go_wp2_with fail
  clear X_0 X_1 X_2 X_3 X_4 X_5 X_6 X_7 X_8
  have H := hid (HH.out.far K.out)
  refine (had_any H.out HN.out).mono ?_
  rintro e' w4 ⟨rfl, k4⟩
  replace K := hid (K.out.trans k4 (fun _ h _ => h))
  replace BX := hid (k4.blk BX.out (fun h => h))
  replace HE := hid (HE.out.chg k4 (fun _ _ h => h))
  replace H := hid (H.out.far k4)
  clear k4
  by_cases hhd : hadR r e = 0
  case neg =>
    have hhd2 : (hadR r e != 0) = true := by simp [hhd]
    have HHD := hid (show hadR r e ≠ 0 from hhd)
    clear hhd
    go_wp2_with fail
    go_ret2
    have e1 : submitR r e = (r, hadR r e) := by unfold submitR; rw [if_neg HR.out, if_neg HERN.out, if_pos HHD.out]
    rw [e1]
    exact Stood.none_ HH.out HO.out K.out rfl
  have HHD := hid (show ¬ hadR r e ≠ 0 from fun h => h hhd)
  rw [hhd]
  clear hhd
  go_wp2_with fail
  refine (length_any H.out HN.out).mono ?_
  rintro e' w5 ⟨rfl, rfl⟩
  by_cases hfl : (n : Int) = 64
  case pos =>
    have hfl2 : ((n : Int) == 64) = true := by simp [hfl]
    have HFL := hid (show (r.s.log.length : Int) = 64 by rw [← L1.out]; exact hfl)
    clear hfl
    go_wp2_with fail
    go_ret2
    have e1 : submitR r e = (r, 33) := by unfold submitR; rw [if_neg HR.out, if_neg HERN.out, if_neg HHD.out, if_pos HFL.out]
    rw [e1]
    exact Stood.none_ HH.out HO.out K.out rfl
  have hfl2 : ((n : Int) == 64) = false := by simp [hfl]
  have HFL := hid (show ¬ (r.s.log.length : Int) = 64 by rw [← L1.out]; exact hfl)
  have HN63 := hid (show n ≤ 63 by have := HN.out; omega)
  clear hfl
  have BP := hid H.out.blk
  have P_3 : w4.cell? ⟨p, 3, none⟩ = some (.int .i64 r.s.view) := (cellAt BP.out 3).trans rfl
  have X_0 : w4.cell? ⟨b, 0, none⟩ = some (.int .i64 e.view) := (cellAt BX.out 0).trans rfl
  have X_f0 : w4.frozen? ⟨b, 0, none⟩ = false := freeAt BX.out 0
  go_wp2_with fail
  obtain ⟨w6, hw6⟩ : ∃ q_, q_ = w4.setCell ⟨b, 0, none⟩ (.int .i64 r.s.view) := ⟨_, rfl⟩
  rw [← hw6]
  have K6 := hid (show Chg (fun j => j = b) w4 w6 by rw [hw6]; exact (Chg.refl (fun j => j = b) w4).set (fun _ => rfl) _)
  replace BX := hid (show w6.heap[b]? = some (.cells #[.int .i64 r.s.view, .int .i64 e.client, .int .i64 e.request, .int .i64 e.dflt, .int .i64 e.closed, .int .i64 e.fuel, .int .i64 e.stack, .slice E1 m1 d1, .slice E2 m2 d2] 56 (0, 0)) by rw [hw6]; exact blk_set BX.out 0 _)
  replace HE := hid ((HE.out.chg K6.out (fun j hj e => by have h1 := hj.2; have h2 := HBb.out; omega)).view (v := r.s.view) (numW_of (by have := HST.out; omega)))
  replace K := hid (show Chg (fun _ => False) w w6 from K.out.trans K6.out (fun j hj hl => by have := HBb.out; omega))
  replace H := hid (HH.out.far K.out)
  replace BP := hid H.out.blk
  clear hw6 P_3 X_0 X_f0 hfl2
  obtain ⟨e2, he2⟩ : ∃ q_, q_ = { e with view := r.s.view } := ⟨_, rfl⟩
  rw [← he2] at HE
  have HE2 := hid he2
  have HER2 := hid (show entryR e2 = true by rw [he2]; exact entryR_view HER.out HST.out.1)
  obtain ⟨ra, hra⟩ : ∃ q_, q_ = putR r [e2] := ⟨_, rfl⟩
  have HRA := hid hra
  have HAL := hid H.out.log
  clear he2 hra
  go_upto_region 11 with fail
  go_cut [] (fun wx => ∃ A7 c7, Rep w wx p b1 b2 b3 X ra A7 (n + 1) c7 (.slice none 0 0) ∧ Chg (fun j => j = p) w wx)
  case first =>
    have U_7 : ∀ wx, Chg (fun _ => False) w6 wx → wx.cell? ⟨p, 7, none⟩ = some (.slice A n c) := fun wx hx => (cellAt (hx.blk BP.out (fun h => h)) 7).trans rfl
    have P_7 : w6.cell? ⟨p, 7, none⟩ = some (.slice A n c) := (cellAt BP.out 7).trans rfl
    have X_0 : ∀ wx, Chg (fun _ => False) w6 wx → wx.cell? ⟨b, 0, none⟩ = some (.int .i64 r.s.view) := fun wx hx => (cellAt (hx.blk BX.out (fun h => h)) 0).trans rfl
    have X_1 : ∀ wx, Chg (fun _ => False) w6 wx → wx.cell? ⟨b, 1, none⟩ = some (.int .i64 e.client) := fun wx hx => (cellAt (hx.blk BX.out (fun h => h)) 1).trans rfl
    have X_2 : ∀ wx, Chg (fun _ => False) w6 wx → wx.cell? ⟨b, 2, none⟩ = some (.int .i64 e.request) := fun wx hx => (cellAt (hx.blk BX.out (fun h => h)) 2).trans rfl
    have X_3 : ∀ wx, Chg (fun _ => False) w6 wx → wx.cell? ⟨b, 3, none⟩ = some (.int .i64 e.dflt) := fun wx hx => (cellAt (hx.blk BX.out (fun h => h)) 3).trans rfl
    have X_4 : ∀ wx, Chg (fun _ => False) w6 wx → wx.cell? ⟨b, 4, none⟩ = some (.int .i64 e.closed) := fun wx hx => (cellAt (hx.blk BX.out (fun h => h)) 4).trans rfl
    have X_5 : ∀ wx, Chg (fun _ => False) w6 wx → wx.cell? ⟨b, 5, none⟩ = some (.int .i64 e.fuel) := fun wx hx => (cellAt (hx.blk BX.out (fun h => h)) 5).trans rfl
    have X_6 : ∀ wx, Chg (fun _ => False) w6 wx → wx.cell? ⟨b, 6, none⟩ = some (.int .i64 e.stack) := fun wx hx => (cellAt (hx.blk BX.out (fun h => h)) 6).trans rfl
    have X_7 : ∀ wx, Chg (fun _ => False) w6 wx → wx.cell? ⟨b, 7, none⟩ = some (.slice E1 m1 d1) := fun wx hx => (cellAt (hx.blk BX.out (fun h => h)) 7).trans rfl
    have X_8 : ∀ wx, Chg (fun _ => False) w6 wx → wx.cell? ⟨b, 8, none⟩ = some (.slice E2 m2 d2) := fun wx hx => (cellAt (hx.blk BX.out (fun h => h)) 8).trans rfl
    refine wpB_start (fun wx : World => Chg (fun _ => False) w6 wx) (by kernel_rfl) ?_
    have hHeld : (fun wx : World => Chg (fun _ => False) w6 wx) _ := (Chg.refl (fun _ => False) w6).drew
    -- 0: t31 := move t0 : 30
    refine wpB_take (i := 0) (v := ?_) (get_of_drop rfl) (by kernel_rfl) (by kernel_rfl) (by kernel_rfl) (by kernel_rfl) (fun _ _ _ h => h) (Or.inl ⟨by rfl, ?_⟩) hHeld ?_
    rotate_left
    · (intro w hSw; (try dsimp only at hSw); go_simp <;> with_reducible rfl)
    try simp only [Act.put, List.setIfInBounds_toArray, List.set_cons_zero, List.set_cons_succ]
    -- 1: t32 := move t0 : 30
    refine wpB_take (i := 1) (v := ?_) (get_of_drop rfl) (by kernel_rfl) (by kernel_rfl) (by kernel_rfl) (by kernel_rfl) (fun _ _ _ h => h) (Or.inl ⟨by rfl, ?_⟩) hHeld ?_
    rotate_left
    · (intro w hSw; (try dsimp only at hSw); go_simp <;> with_reducible rfl)
    try simp only [Act.put, List.setIfInBounds_toArray, List.set_cons_zero, List.set_cons_succ]
    -- 2: t33 := nilCheck t32 : 0
    refine wpB_take (i := 2) (v := ?_) (get_of_drop rfl) (by kernel_rfl) (by kernel_rfl) (by kernel_rfl) (by kernel_rfl) (fun _ _ _ h => h) (Or.inl ⟨by rfl, ?_⟩) hHeld ?_
    rotate_left
    · (intro w hSw; (try dsimp only at hSw); go_simp <;> with_reducible rfl)
    try simp only [Act.put, List.setIfInBounds_toArray, List.set_cons_zero, List.set_cons_succ]
    -- 3: t34 := fieldAddr 100 t33 1 : 0
    refine wpB_take (i := 3) (v := ?_) (get_of_drop rfl) (by kernel_rfl) (by kernel_rfl) (by kernel_rfl) (by kernel_rfl) (fun _ _ _ h => h) (Or.inl ⟨by rfl, ?_⟩) hHeld ?_
    rotate_left
    · (intro w hSw; (try dsimp only at hSw); go_simp <;> with_reducible rfl)
    try simp only [Act.put, List.setIfInBounds_toArray, List.set_cons_zero, List.set_cons_succ]
    -- 4: t35 := fieldAddr 26 t34 4 : 0
    refine wpB_take (i := 4) (v := ?_) (get_of_drop rfl) (by kernel_rfl) (by kernel_rfl) (by kernel_rfl) (by kernel_rfl) (fun _ _ _ h => h) (Or.inl ⟨by rfl, ?_⟩) hHeld ?_
    rotate_left
    · (intro w hSw; (try dsimp only at hSw); go_simp <;> with_reducible rfl)
    try simp only [Act.put, List.setIfInBounds_toArray, List.set_cons_zero, List.set_cons_succ]
    -- 5: t36 := load 24 t35 : 24
    refine wpB_take (i := 5) (v := ?_) (get_of_drop rfl) (by kernel_rfl) (by kernel_rfl) (by kernel_rfl) (by kernel_rfl) (fun _ _ _ h => h) (Or.inl ⟨by rfl, ?_⟩) hHeld ?_
    rotate_left
    · (intro w hSw; (try dsimp only at hSw); go_simp <;> with_reducible rfl)
    try simp only [Act.put, List.setIfInBounds_toArray, List.set_cons_zero, List.set_cons_succ]
    -- 7: t38 := load 56 t3 : 56
    refine wpB_take (i := 7) (v := ?_) (get_of_drop rfl) (by kernel_rfl) (by kernel_rfl) (by kernel_rfl) (by kernel_rfl) (fun _ _ _ h => h) (Or.inl ⟨by rfl, ?_⟩) hHeld ?_
    rotate_left
    · (intro w hSw; (try dsimp only at hSw); go_simp <;> with_reducible rfl)
    try simp only [Act.put, List.setIfInBounds_toArray, List.set_cons_zero, List.set_cons_succ]
    refine wpB_two (i := 6) (j := 8) (by kernel_rfl) (get_of_drop rfl) (get_of_drop rfl) (fun K hK => ?_) (fun K hK => ?_)
    · -- 6: t37 := CALL fn77(t36) : 24
      go_simp
      refine (clip_any HAL.out.2.1 (by have := HN.out; omega)).mono ?_
      rintro e' wy ⟨rfl, rfl⟩
      refine hK.out _ _ ?_ (fun hHeld2 => ?_)
      · first | assumption | exact HL.out | exact HCY.out | exact HC7.out
      clear hHeld hK K
      have hHeld := hHeld2
      clear hHeld2
      try simp only [Act.put, List.setIfInBounds_toArray, List.set_cons_zero, List.set_cons_succ]
      -- 8: t39 := buildSlice 24 1 [⟨0, t38⟩] : 24
      refine wpB_act (i := 8) (by kernel_rfl) (get_of_drop rfl) (fun K hK => ?_)
      go_simp
      obtain ⟨wl, hwl⟩ : ∃ q_, q_ = (w6.alloc (.cells #[.int .i64 r.s.view, .int .i64 e.client, .int .i64 e.request, .int .i64 e.dflt, .int .i64 e.closed, .int .i64 e.fuel, .int .i64 e.stack, .slice E1 m1 d1, .slice E2 m2 d2] 56)).drew := ⟨_, rfl⟩
      rw [← hwl]
      have HL := hid (show Chg (fun _ => False) w6 wl by rw [hwl]; exact ((Chg.refl _ w6).alloc _).drew)
      have HLIT := hid (show Ty.At entryK wl (fun j => (R j ∧ j < w.heap.size) ∨ j = w6.heap.size) (some ⟨w6.heap.size, 0, none⟩) 1 1 [e2] by rw [hwl]; exact (lit_at (cs := #[.int .i64 r.s.view, .int .i64 e.client, .int .i64 e.request, .int .i64 e.dflt, .int .i64 e.closed, .int .i64 e.fuel, .int .i64 e.stack, .slice E1 m1 d1, .slice E2 m2 d2]) (t := 56) (by have := entry_shut HE.out; rw [HE2.out] at this ⊢; exact this)).chg ((Chg.refl (fun _ => False) _).drew) (fun _ _ h => h))
      clear hwl
      refine hK.out _ _ ?_ (fun hHeld2 => ?_)
      · first | assumption | exact HL.out | exact HCY.out | exact HC7.out
      clear hHeld hK K
      have hHeld := hHeld2
      clear hHeld2
      try simp only [Act.put, List.setIfInBounds_toArray, List.set_cons_zero, List.set_cons_succ]
      -- 9: t40 := CALL fn47(t39) : 24
      refine wpB_act (i := 9) (by kernel_rfl) (get_of_drop rfl) (fun K hK => ?_)
      go_simp
      refine (rcopied_any HLIT.out (by decide) (fits_right (fun x hx => by rw [List.mem_singleton.1 hx]; exact HER2.out))).mono ?_
      rintro e' wy ⟨B5, d5, rfl, hat, hcy⟩
      have HCY := hid (show Chg (fun _ => False) w6 wy from HL.out.trans hcy (fun _ h _ => h))
      have HAT := hid hat
      clear hcy hat
      refine hK.out _ _ ?_ (fun hHeld2 => ?_)
      · first | assumption | exact HL.out | exact HCY.out | exact HC7.out
      clear hHeld hK K
      have hHeld := hHeld2
      clear hHeld2
      try simp only [Act.put, List.setIfInBounds_toArray, List.set_cons_zero, List.set_cons_succ]
      -- 10: t41 := append(t37, t40) types [24, 24] : 24
      refine wpB_act (i := 10) (by kernel_rfl) (get_of_drop rfl) (fun K hK => ?_)
      refine join_step (d := entryK) _ rfl (.tmp 37) (.tmp 40) 24 56 (.agg #[.int .i64 0, .int .i64 0, .int .i64 0, .int .i64 0, .int .i64 0, .int .i64 0, .int .i64 0, .slice none 0 0, .slice none 0 0]) 104 rfl Try.underlying24 infoEntryP rfl (by decide) (by decide) (A := A) (n := n) (B := B5) (m := 1) (c := d5) rfl rfl (at_clip (HAL.out.chg HCY.out (fun _ _ h => h))) HAT.out.at (by decide) (by have := HN.out; omega) ?_
      intro A7 c7 w7 h7 k7
      have HC7 := hid (show Chg (fun _ => False) w6 w7 from HCY.out.trans k7 (fun _ h _ => h))
      have HL7 := hid h7
      have HLS := hid (show w6.heap.size ≤ wl.heap.size from HL.out.size)
      have HYS := hid HCY.out.size
      have BP7 := hid (HC7.out.blk BP.out (fun h => h))
      have z7 : w7.cell? ⟨p, 7, none⟩ = some (.slice A n c) := (cellAt BP7.out 7).trans rfl
      have f7 : w7.frozen? ⟨p, 7, none⟩ = false := freeAt BP7.out 7
      clear h7 k7
      refine hK.out _ _ ?_ (fun hHeld2 => ?_)
      · first | assumption | exact HL.out | exact HCY.out | exact HC7.out
      clear hHeld hK K
      have hHeld := hHeld2
      clear hHeld2
      try simp only [Act.put, List.setIfInBounds_toArray, List.set_cons_zero, List.set_cons_succ]
      -- 11: t42 := nilCheck t31 : 0
      refine wpB_take (i := 11) (v := ?_) (get_of_drop rfl) (by kernel_rfl) (by kernel_rfl) (by kernel_rfl) (by kernel_rfl) (fun _ _ _ h => h) (Or.inl ⟨by rfl, ?_⟩) hHeld ?_
      rotate_left
      · (intro w hSw; (try dsimp only at hSw); go_simp <;> with_reducible rfl)
      try simp only [Act.put, List.setIfInBounds_toArray, List.set_cons_zero, List.set_cons_succ]
      -- 12: t43 := fieldAddr 100 t42 1 : 0
      refine wpB_take (i := 12) (v := ?_) (get_of_drop rfl) (by kernel_rfl) (by kernel_rfl) (by kernel_rfl) (by kernel_rfl) (fun _ _ _ h => h) (Or.inl ⟨by rfl, ?_⟩) hHeld ?_
      rotate_left
      · (intro w hSw; (try dsimp only at hSw); go_simp <;> with_reducible rfl)
      try simp only [Act.put, List.setIfInBounds_toArray, List.set_cons_zero, List.set_cons_succ]
      -- 13: t44 := fieldAddr 26 t43 4 : 0
      refine wpB_take (i := 13) (v := ?_) (get_of_drop rfl) (by kernel_rfl) (by kernel_rfl) (by kernel_rfl) (by kernel_rfl) (fun _ _ _ h => h) (Or.inl ⟨by rfl, ?_⟩) hHeld ?_
      rotate_left
      · (intro w hSw; (try dsimp only at hSw); go_simp <;> with_reducible rfl)
      try simp only [Act.put, List.setIfInBounds_toArray, List.set_cons_zero, List.set_cons_succ]
      -- 14: t- := store 24 t44 t41 : 0 (BARRIER)
      refine wpB_bar (i := 14) (by kernel_rfl) (get_of_drop rfl) (by kernel_rfl) (fun K hK => ?_)
      go_simp
      refine hK.out _ _ (fun _ : World => True) ?_
      clear hHeld hK K
      have hHeld := trivial
      try simp only [Act.put, List.setIfInBounds_toArray, List.set_cons_zero, List.set_cons_succ]
      refine wpB_done (by kernel_rfl) ?_ _
      clear hHeld
      have K8 := hid (show Chg (fun j => j = p) w7 (w7.setCell ⟨p, 7, none⟩ (.slice A7 (n + 1) c7)) from (Chg.refl (fun j => j = p) w7).set (fun _ => rfl) _)
      have HLA : Ty.At entryK (w7.setCell ⟨p, 7, none⟩ (.slice A7 (n + 1) c7)) (Lg X (.slice none 0 0)) A7 (n + 1) c7 ra.s.log := by
        rw [HRA.out]
        have h2 : p < w6.heap.size := lt_of_blk BP.out
        have h3 := HLS.out
        have h4 := HYS.out
        refine (HL7.out.chg K8.out (fun j hj e => ?_)).mono (fun j hj => ?_)
        · rcases hj.1 with h | h | h
          · exact h.1 (H.out.sub.1 _ (.inl e))
          · rcases h with h | h <;> (have : wl.heap.size ≤ j := h; omega)
          · omega
        · rcases hj.1 with h | h | h
          · exact h
          · refine H.out.new_lg ?_
            rcases h with h | h <;> exact Nat.le_trans h3 h
          · exact H.out.new_lg (Nat.le_trans h4 h)
      go_wp2_with fail
      go_meet
      exact ⟨A7, c7, (H.out.far HC7.out).relog K8.out (by rw [HRA.out]; exact blk_set BP7.out 7 _) HLA (by rw [HRA.out]; rfl) (by rw [HRA.out]; rfl) (by rw [HRA.out]; rfl) (by rw [HRA.out]; rfl), ((K.out.trans HC7.out (fun _ h _ => h)).mono (S' := fun j => j = p) (fun _ h _ => h.elim)).trans K8.out (fun _ h _ => h)⟩
    · -- 8: t39 := buildSlice 24 1 [⟨0, t38⟩] : 24
      go_simp
      obtain ⟨wl, hwl⟩ : ∃ q_, q_ = (w6.alloc (.cells #[.int .i64 r.s.view, .int .i64 e.client, .int .i64 e.request, .int .i64 e.dflt, .int .i64 e.closed, .int .i64 e.fuel, .int .i64 e.stack, .slice E1 m1 d1, .slice E2 m2 d2] 56)).drew := ⟨_, rfl⟩
      rw [← hwl]
      have HL := hid (show Chg (fun _ => False) w6 wl by rw [hwl]; exact ((Chg.refl _ w6).alloc _).drew)
      have HLIT := hid (show Ty.At entryK wl (fun j => (R j ∧ j < w.heap.size) ∨ j = w6.heap.size) (some ⟨w6.heap.size, 0, none⟩) 1 1 [e2] by rw [hwl]; exact (lit_at (cs := #[.int .i64 r.s.view, .int .i64 e.client, .int .i64 e.request, .int .i64 e.dflt, .int .i64 e.closed, .int .i64 e.fuel, .int .i64 e.stack, .slice E1 m1 d1, .slice E2 m2 d2]) (t := 56) (by have := entry_shut HE.out; rw [HE2.out] at this ⊢; exact this)).chg ((Chg.refl (fun _ => False) _).drew) (fun _ _ h => h))
      clear hwl
      refine hK.out _ _ ?_ (fun hHeld2 => ?_)
      · first | assumption | exact HL.out | exact HCY.out | exact HC7.out
      clear hHeld hK K
      have hHeld := hHeld2
      clear hHeld2
      try simp only [Act.put, List.setIfInBounds_toArray, List.set_cons_zero, List.set_cons_succ]
      -- 6: t37 := CALL fn77(t36) : 24
      refine wpB_act (i := 6) (by kernel_rfl) (get_of_drop rfl) (fun K hK => ?_)
      go_simp
      refine (clip_any HAL.out.2.1 (by have := HN.out; omega)).mono ?_
      rintro e' wy ⟨rfl, rfl⟩
      refine hK.out _ _ ?_ (fun hHeld2 => ?_)
      · first | assumption | exact HL.out | exact HCY.out | exact HC7.out
      clear hHeld hK K
      have hHeld := hHeld2
      clear hHeld2
      try simp only [Act.put, List.setIfInBounds_toArray, List.set_cons_zero, List.set_cons_succ]
      -- 9: t40 := CALL fn47(t39) : 24
      refine wpB_act (i := 9) (by kernel_rfl) (get_of_drop rfl) (fun K hK => ?_)
      go_simp
      refine (rcopied_any HLIT.out (by decide) (fits_right (fun x hx => by rw [List.mem_singleton.1 hx]; exact HER2.out))).mono ?_
      rintro e' wy ⟨B5, d5, rfl, hat, hcy⟩
      have HCY := hid (show Chg (fun _ => False) w6 wy from HL.out.trans hcy (fun _ h _ => h))
      have HAT := hid hat
      clear hcy hat
      refine hK.out _ _ ?_ (fun hHeld2 => ?_)
      · first | assumption | exact HL.out | exact HCY.out | exact HC7.out
      clear hHeld hK K
      have hHeld := hHeld2
      clear hHeld2
      try simp only [Act.put, List.setIfInBounds_toArray, List.set_cons_zero, List.set_cons_succ]
      -- 10: t41 := append(t37, t40) types [24, 24] : 24
      refine wpB_act (i := 10) (by kernel_rfl) (get_of_drop rfl) (fun K hK => ?_)
      refine join_step (d := entryK) _ rfl (.tmp 37) (.tmp 40) 24 56 (.agg #[.int .i64 0, .int .i64 0, .int .i64 0, .int .i64 0, .int .i64 0, .int .i64 0, .int .i64 0, .slice none 0 0, .slice none 0 0]) 104 rfl Try.underlying24 infoEntryP rfl (by decide) (by decide) (A := A) (n := n) (B := B5) (m := 1) (c := d5) rfl rfl (at_clip (HAL.out.chg HCY.out (fun _ _ h => h))) HAT.out.at (by decide) (by have := HN.out; omega) ?_
      intro A7 c7 w7 h7 k7
      have HC7 := hid (show Chg (fun _ => False) w6 w7 from HCY.out.trans k7 (fun _ h _ => h))
      have HL7 := hid h7
      have HLS := hid (show w6.heap.size ≤ wl.heap.size from HL.out.size)
      have HYS := hid HCY.out.size
      have BP7 := hid (HC7.out.blk BP.out (fun h => h))
      have z7 : w7.cell? ⟨p, 7, none⟩ = some (.slice A n c) := (cellAt BP7.out 7).trans rfl
      have f7 : w7.frozen? ⟨p, 7, none⟩ = false := freeAt BP7.out 7
      clear h7 k7
      refine hK.out _ _ ?_ (fun hHeld2 => ?_)
      · first | assumption | exact HL.out | exact HCY.out | exact HC7.out
      clear hHeld hK K
      have hHeld := hHeld2
      clear hHeld2
      try simp only [Act.put, List.setIfInBounds_toArray, List.set_cons_zero, List.set_cons_succ]
      -- 11: t42 := nilCheck t31 : 0
      refine wpB_take (i := 11) (v := ?_) (get_of_drop rfl) (by kernel_rfl) (by kernel_rfl) (by kernel_rfl) (by kernel_rfl) (fun _ _ _ h => h) (Or.inl ⟨by rfl, ?_⟩) hHeld ?_
      rotate_left
      · (intro w hSw; (try dsimp only at hSw); go_simp <;> with_reducible rfl)
      try simp only [Act.put, List.setIfInBounds_toArray, List.set_cons_zero, List.set_cons_succ]
      -- 12: t43 := fieldAddr 100 t42 1 : 0
      refine wpB_take (i := 12) (v := ?_) (get_of_drop rfl) (by kernel_rfl) (by kernel_rfl) (by kernel_rfl) (by kernel_rfl) (fun _ _ _ h => h) (Or.inl ⟨by rfl, ?_⟩) hHeld ?_
      rotate_left
      · (intro w hSw; (try dsimp only at hSw); go_simp <;> with_reducible rfl)
      try simp only [Act.put, List.setIfInBounds_toArray, List.set_cons_zero, List.set_cons_succ]
      -- 13: t44 := fieldAddr 26 t43 4 : 0
      refine wpB_take (i := 13) (v := ?_) (get_of_drop rfl) (by kernel_rfl) (by kernel_rfl) (by kernel_rfl) (by kernel_rfl) (fun _ _ _ h => h) (Or.inl ⟨by rfl, ?_⟩) hHeld ?_
      rotate_left
      · (intro w hSw; (try dsimp only at hSw); go_simp <;> with_reducible rfl)
      try simp only [Act.put, List.setIfInBounds_toArray, List.set_cons_zero, List.set_cons_succ]
      -- 14: t- := store 24 t44 t41 : 0 (BARRIER)
      refine wpB_bar (i := 14) (by kernel_rfl) (get_of_drop rfl) (by kernel_rfl) (fun K hK => ?_)
      go_simp
      refine hK.out _ _ (fun _ : World => True) ?_
      clear hHeld hK K
      have hHeld := trivial
      try simp only [Act.put, List.setIfInBounds_toArray, List.set_cons_zero, List.set_cons_succ]
      refine wpB_done (by kernel_rfl) ?_ _
      clear hHeld
      have K8 := hid (show Chg (fun j => j = p) w7 (w7.setCell ⟨p, 7, none⟩ (.slice A7 (n + 1) c7)) from (Chg.refl (fun j => j = p) w7).set (fun _ => rfl) _)
      have HLA : Ty.At entryK (w7.setCell ⟨p, 7, none⟩ (.slice A7 (n + 1) c7)) (Lg X (.slice none 0 0)) A7 (n + 1) c7 ra.s.log := by
        rw [HRA.out]
        have h2 : p < w6.heap.size := lt_of_blk BP.out
        have h3 := HLS.out
        have h4 := HYS.out
        refine (HL7.out.chg K8.out (fun j hj e => ?_)).mono (fun j hj => ?_)
        · rcases hj.1 with h | h | h
          · exact h.1 (H.out.sub.1 _ (.inl e))
          · rcases h with h | h <;> (have : wl.heap.size ≤ j := h; omega)
          · omega
        · rcases hj.1 with h | h | h
          · exact h
          · refine H.out.new_lg ?_
            rcases h with h | h <;> exact Nat.le_trans h3 h
          · exact H.out.new_lg (Nat.le_trans h4 h)
      go_wp2_with fail
      go_meet
      exact ⟨A7, c7, (H.out.far HC7.out).relog K8.out (by rw [HRA.out]; exact blk_set BP7.out 7 _) HLA (by rw [HRA.out]; rfl) (by rw [HRA.out]; rfl) (by rw [HRA.out]; rfl) (by rw [HRA.out]; rfl), ((K.out.trans HC7.out (fun _ h _ => h)).mono (S' := fun j => j = p) (fun _ h _ => h.elim)).trans K8.out (fun _ h _ => h)⟩
  case rest =>
    obtain ⟨A7, c7, h7, k7⟩ := hcut
    have H7 := hid h7
    have K7 := hid k7
    clear h7 k7
    have HN1 := hid (show n + 1 ≤ 64 by have := HN63.out; omega)
    obtain ⟨n1, hn1⟩ : ∃ q_, q_ = n + 1 := ⟨_, rfl⟩
    rw [← hn1] at H7 HN1
    have HN1E := hid hn1
    have hn1b : (n1 : Int) ≤ 64 := by have := HN1.out; omega
    have hn1c : 1 ≤ (n1 : Int) := by omega
    have hwn : IntKind.i64.wrap ((n1 : Int) - 1) = (n1 : Int) - 1 := IntWalk.i64_in _ (by omega)
    clear hn1
    have HLOG := hid (show ra.s.log = r.s.log ++ [e2] by rw [HRA.out]; rfl)
    have HCM := hid (show ra.s.commit = r.s.commit by rw [HRA.out]; rfl)
    obtain ⟨A', c', hcut2, hat2⟩ := Ty.At.from_ (P := Try.prog) (d := entryK) Try.underlying24 infoEntryP A7 n1 c7 n 1 ((n1 : Int) - 1) (by have := HN1E.out; omega) (by have := HN1E.out; omega) (by have := HN1E.out; omega)
    have HAT2 := hid hat2
    clear hat2
    go_wp2_with fail
    refine (told_any H7.out HN1.out).mono ?_
    rintro e' w8 ⟨rfl, k8⟩
    have H8 := hid (H7.out.far k8)
    have K8 := hid (K7.out.trans k8 (fun _ h _ => h.elim))
    rw [HCM.out]
    clear k8
    obtain ⟨b9, hb9⟩ : ∃ q_, q_ = w8.heap.size := ⟨_, rfl⟩
    obtain ⟨w9, hw9⟩ : ∃ q_, q_ = w8.alloc (.cells #[.int .i64 1, .int .i64 0, .int .i64 0, .int .i64 0, .int .i64 (n1 : Int), .int .i64 r.s.commit, .int .i64 0, .slice A7 n1 c7] 41) := ⟨_, rfl⟩
    have C9 := hid (show Chg (fun _ => False) w8 w9 by rw [hw9]; exact (Chg.refl _ w8).alloc _)
    have B9 := hid (show w9.heap[b9]? = some (.cells #[.int .i64 1, .int .i64 0, .int .i64 0, .int .i64 0, .int .i64 (n1 : Int), .int .i64 r.s.commit, .int .i64 0, .slice A7 n1 c7] 41 (0, 0)) by rw [hw9, hb9]; exact blk_new w8 _)
    have HB9 := hid hb9
    go_wp2_with fail
    rw [← hw9, ← hb9]
    clear hw9 hb9
    have Y_7 : ∀ wx, Chg (fun _ => False) w9 wx → wx.cell? ⟨b9, 7, none⟩ = some (.slice A7 n1 c7) := fun wx hx => (cellAt (hx.blk B9.out (fun h => h)) 7).trans rfl
    have y7 : w9.cell? ⟨b9, 7, none⟩ = some (.slice A7 n1 c7) := (cellAt B9.out 7).trans rfl
    have f7 : w9.frozen? ⟨b9, 7, none⟩ = false := freeAt B9.out 7
    have H9 := hid (H8.out.far C9.out)
    refine wpB_start (fun wx : World => Chg (fun _ => False) w9 wx) (by kernel_rfl) ?_
    have hHeld : (fun wx : World => Chg (fun _ => False) w9 wx) _ := (Chg.refl (fun _ => False) w9).drew
    -- 0: t47 := fieldAddr 41 t7 7 : 0
    refine wpB_take (i := 0) (v := ?_) (get_of_drop rfl) (by kernel_rfl) (by kernel_rfl) (by kernel_rfl) (by kernel_rfl) (fun _ _ _ h => h) (Or.inl ⟨by rfl, ?_⟩) hHeld ?_
    rotate_left
    · (intro w hSw; (try dsimp only at hSw); go_simp <;> with_reducible rfl)
    try simp only [Act.put, List.setIfInBounds_toArray, List.set_cons_zero, List.set_cons_succ]
    -- 1: t48 := load 24 t47 : 24
    refine wpB_take (i := 1) (v := ?_) (get_of_drop rfl) (by kernel_rfl) (by kernel_rfl) (by kernel_rfl) (by kernel_rfl) (fun _ _ _ h => h) (Or.inl ⟨by rfl, ?_⟩) hHeld ?_
    rotate_left
    · (intro w hSw; (try dsimp only at hSw); go_simp <;> with_reducible rfl)
    try simp only [Act.put, List.setIfInBounds_toArray, List.set_cons_zero, List.set_cons_succ]
    -- 2: t49 := move t0 : 30
    refine wpB_take (i := 2) (v := ?_) (get_of_drop rfl) (by kernel_rfl) (by kernel_rfl) (by kernel_rfl) (by kernel_rfl) (fun _ _ _ h => h) (Or.inl ⟨by rfl, ?_⟩) hHeld ?_
    rotate_left
    · (intro w hSw; (try dsimp only at hSw); go_simp <;> with_reducible rfl)
    try simp only [Act.put, List.setIfInBounds_toArray, List.set_cons_zero, List.set_cons_succ]
    -- 3: t50 := CALL fn76(t49) : 3
    refine wpB_act (i := 3) (by kernel_rfl) (get_of_drop rfl) (fun K hK => ?_)
    go_simp
    refine (length_any (H9.out.far hHeld) HN1.out).mono ?_
    rintro e' wy ⟨rfl, rfl⟩
    refine hK.out _ _ ?_ (fun hHeld2 => ?_)
    · first | assumption | exact Chg.alloc hHeld _
    clear hHeld hK K
    have hHeld := hHeld2
    clear hHeld2
    try simp only [Act.put, List.setIfInBounds_toArray, List.set_cons_zero, List.set_cons_succ]
    -- 4: t51 := binOp BinOp.sub 3 t50 #i64:1 3 : 3
    refine wpB_take (i := 4) (v := ?_) (get_of_drop rfl) (by kernel_rfl) (by kernel_rfl) (by kernel_rfl) (by kernel_rfl) (fun _ _ _ h => h) (Or.inl ⟨by rfl, ?_⟩) hHeld ?_
    rotate_left
    · (intro w hSw; (try dsimp only at hSw); go_simp <;> with_reducible rfl)
    try simp only [Act.put, List.setIfInBounds_toArray, List.set_cons_zero, List.set_cons_succ]
    -- 5: t52 := slice 24 t48 some t51 none none : 24
    refine wpB_take (i := 5) (v := ?_) (get_of_drop rfl) (by kernel_rfl) (by kernel_rfl) (by kernel_rfl) (by kernel_rfl) (fun _ _ _ h => h) (Or.inl ⟨by rfl, ?_⟩) hHeld ?_
    rotate_left
    · (intro w hSw; (try dsimp only at hSw); go_simp <;> with_reducible rfl)
    try simp only [Act.put, List.setIfInBounds_toArray, List.set_cons_zero, List.set_cons_succ]
    -- 6: t53 := fieldAddr 41 t7 7 : 0
    refine wpB_take (i := 6) (v := ?_) (get_of_drop rfl) (by kernel_rfl) (by kernel_rfl) (by kernel_rfl) (by kernel_rfl) (fun _ _ _ h => h) (Or.inl ⟨by rfl, ?_⟩) hHeld ?_
    rotate_left
    · (intro w hSw; (try dsimp only at hSw); go_simp <;> with_reducible rfl)
    try simp only [Act.put, List.setIfInBounds_toArray, List.set_cons_zero, List.set_cons_succ]
    -- 7: t- := store 24 t53 t52 : 0 (BARRIER)
    refine wpB_bar (i := 7) (by kernel_rfl) (get_of_drop rfl) (by kernel_rfl) (fun K hK => ?_)
    go_simp
    refine hK.out _ _ (fun _ : World => True) ?_
    clear hHeld hK K
    have hHeld := trivial
    try simp only [Act.put, List.setIfInBounds_toArray, List.set_cons_zero, List.set_cons_succ]
    refine wpB_done (by kernel_rfl) ?_ _
    clear Y_7 y7 f7 hHeld hcut2 hwn
    obtain ⟨w10, hw10⟩ : ∃ q_, q_ = (w9.setCell ⟨b9, 7, none⟩ (.slice A' 1 c')).drew := ⟨_, rfl⟩
    rw [← hw10]
    have C10 := hid (show Chg (fun _ => False) w8 w10 by rw [hw10]; exact (C9.out.trans ((Chg.refl (fun j => j = b9) w9).set (p := ⟨b9, 7, none⟩) (fun _ => rfl) _) (fun j hj hl => by have := HB9.out; omega)).drew)
    have B10 := hid (show w10.heap[b9]? = some (.cells #[.int .i64 1, .int .i64 0, .int .i64 0, .int .i64 0, .int .i64 (n1 : Int), .int .i64 r.s.commit, .int .i64 0, .slice A' 1 c'] 41 (0, 0)) by rw [hw10]; exact blk_drew (blk_set B9.out 7 _))
    have H10 := hid (H8.out.far C10.out)
    have HM10 := hid (show Ty.At entryK w10 (Lg X (.slice none 0 0)) A' 1 c' [e2] by
      have h1 := HAT2.out _ _ _ H10.out.log
      rw [HLOG.out, List.drop_left' (L1.out.symm)] at h1
      exact h1)
    clear hw10
    have X_0 : w10.cell? ⟨b9, 0, none⟩ = some (.int .i64 1) := (cellAt B10.out 0).trans rfl
    have X_1 : w10.cell? ⟨b9, 1, none⟩ = some (.int .i64 0) := (cellAt B10.out 1).trans rfl
    have X_2 : w10.cell? ⟨b9, 2, none⟩ = some (.int .i64 0) := (cellAt B10.out 2).trans rfl
    have X_3 : w10.cell? ⟨b9, 3, none⟩ = some (.int .i64 0) := (cellAt B10.out 3).trans rfl
    have X_4 : w10.cell? ⟨b9, 4, none⟩ = some (.int .i64 (n1 : Int)) := (cellAt B10.out 4).trans rfl
    have X_5 : w10.cell? ⟨b9, 5, none⟩ = some (.int .i64 r.s.commit) := (cellAt B10.out 5).trans rfl
    have X_6 : w10.cell? ⟨b9, 6, none⟩ = some (.int .i64 0) := (cellAt B10.out 6).trans rfl
    have X_7 : w10.cell? ⟨b9, 7, none⟩ = some (.slice A' 1 c') := (cellAt B10.out 7).trans rfl
    go_wp2_with fail
    clear X_0 X_1 X_2 X_3 X_4 X_5 X_6 X_7
    refine (say_any (m := ⟨1, 0, 0, 0, (n1 : Int), r.s.commit, 0, [e2]⟩) (R := Lg X (.slice none 0 0)) H10.out (by rw [HRA.out]; exact HOK.out.cfg.1) HM10.out (fun j hj _ e => by rcases e with e | e; exact hj.1 (H10.out.sub.1 _ (.inl e)); exact hj.2 e) (by decide) (fits_right (fun x hx => by rw [List.mem_singleton.1 hx]; exact HER2.out)) ⟨show NumW 1 by decide, numW_of (by have := HN1.out; show _ ≤ (n1 : Int) ∧ (n1 : Int) ≤ _; omega), numW_of (by have := HST.out; show _ ≤ r.s.commit ∧ r.s.commit ≤ _; omega), show NumW 0 by decide⟩ ⟨by rw [HRA.out]; exact numW_of (by have := HST.out; show _ ≤ r.s.view ∧ r.s.view ≤ _; omega), by rw [HRA.out]; exact numW_of (by have := HOK.out.cfg; show _ ≤ r.id ∧ r.id ≤ _; omega)⟩ (by rw [HRA.out]; show r.out.length ≤ 900; rw [HO.out]; decide)).mono ?_
    rintro e' w11 ⟨O', rfl, h11, ho11, k11⟩
    have H11 := hid h11
    have K11 := hid k11
    clear h11 ho11 k11
    go_wp2_with fail
    refine (sent_any H11.out).mono ?_
    rintro e' w12 ⟨rfl, h12, hv12, k12⟩
    have H12 := hid h12
    have HV12 := hid hv12
    have K12 := hid k12
    clear h12 hv12 k12
    go_wp2_with fail
    go_ret2
    have e1 : submitR r e = (sayR ra ⟨1, 0, 0, 0, (n1 : Int), r.s.commit, 0, [e2]⟩, 0) := by
      unfold submitR
      rw [if_neg HR.out, if_neg HERN.out, if_neg HHD.out, if_neg HFL.out, HRA.out, HE2.out, show (r.s.log.length : Int) + 1 = (n1 : Int) by have h1 := HN1E.out; have h2 := L1.out; omega]
    rw [e1]
    refine ⟨_, rfl, ⟨_, _, _, H12.out⟩, HV12.out, no_own ?_⟩
    exact (((K8.out.mono (S' := fun j => M4 p b1 b2 b3 j ∨ (Value.slice none 0 0).ownBlock = some j) (fun j h _ => .inl (.inl h))).trans C10.out (fun _ h _ => h.elim)).trans K11.out (fun j hj _ => by rcases hj with h | h; exact .inl (.inl h); exact .inr h)).trans K12.out (fun j hj _ => .inl (.inl hj))
end Go.Proofs.Ytaldoajdhbndhaa.Pa


/- Deliver. -/

namespace Go.Proofs.Ytaldoajdhbndhaa.Pa

set_option linter.unusedVariables false

set_option linter.unusedSimpArgs false

open Go.RowKit Go.Proofs.Ytaldoajdhbndhaa.C

attribute [local go_sem] max2_int min2_int max_two min_two

set_option maxHeartbeats 4000000 in
set_option maxRecDepth 100000 in
theorem deliver_any {w : World} {p b1 b2 b3 : Nat} {X : Nat → Prop} {r : Rp} {A : Option Addr} {n c : Nat} (h : Rep w w p b1 b2 b3 X r A n c (.slice none 0 0)) {m : Msg} {R : Nat → Prop} {B : Option Addr} {k d : Nat} (hm : Ty.At entryK w R B k d m.log) (hR : ∀ j, R j → j < w.heap.size → ¬ M4 p b1 b2 b3 j) (hok : RpOk r) (ho : r.out = []) :
    Calls Try.prog 18 #[.pointer (some ⟨p, 0, none⟩), .agg #[.int .i64 m.kind, .int .i64 m.view, .int .i64 m.src, .int .i64 m.dst, .int .i64 m.op, .int .i64 m.commit, .int .i64 m.normal, .slice B k d]] w (Stood w p b1 b2 b3 X (deliverR r m).1 (fun O => .tuple #[O, .int .i64 (deliverR r m).2])) := by
  obtain ⟨w1, hw1⟩ : ∃ q_, q_ = (w.alloc (.cells #[.int .i64 m.kind, .int .i64 m.view, .int .i64 m.src, .int .i64 m.dst, .int .i64 m.op, .int .i64 m.commit, .int .i64 m.normal, .slice B k d] 41)) := ⟨_, rfl⟩
  have C1 := hid (show Chg (fun _ => False) w w1 by rw [hw1]; exact (Chg.refl _ w).alloc _)
  have BX := hid (show w1.heap[w.heap.size]? = some (.cells #[.int .i64 m.kind, .int .i64 m.view, .int .i64 m.src, .int .i64 m.dst, .int .i64 m.op, .int .i64 m.commit, .int .i64 m.normal, .slice B k d] 41 (0, 0)) by
    rw [hw1]
    have := blk_new w (.cells #[.int .i64 m.kind, .int .i64 m.view, .int .i64 m.src, .int .i64 m.dst, .int .i64 m.op, .int .i64 m.commit, .int .i64 m.normal, .slice B k d] 41)
    simpa using this)
  have SZ := hid (show w1.heap.size = w.heap.size + 1 by rw [hw1]; simp)
  have H1 := hid (h.far C1.out)
  obtain ⟨b, hb⟩ : ∃ q_, q_ = w.heap.size := ⟨_, rfl⟩
  have HBb := hid hb
  replace BX := hid (show w1.heap[b]? = some (.cells #[.int .i64 m.kind, .int .i64 m.view, .int .i64 m.src, .int .i64 m.dst, .int .i64 m.op, .int .i64 m.commit, .int .i64 m.normal, .slice B k d] 41 (0, 0)) by rw [hb]; exact BX.out)
  have HSZ := hid (show w1.heap.size = b + 1 by rw [hb]; exact SZ.out)
  have HPB := hid (show p < b by rw [hb]; exact lt_of_blk h.blk)
  have HW0 := hid (show w.heap.size ≤ b by rw [hb]; exact Nat.le_refl _)
  have HH := hid h
  have HM := hid (hm.bound.chg C1.out (fun _ _ h => h))
  have HR := hid hR
  have HOK := hid hok
  have HO := hid ho
  have HST := hid hok.stn
  have L1 := hid h.log.1
  have HN := hid (show n ≤ 64 by have h1 := hok.stn.2.2.1; have h2 := h.log.1; omega)
  have H := hid H1.out
  have BP := hid H.out.blk
  clear h hm hR hok ho H1
  go_enter Try.func18, Try.ntmps18
  go_wp2_with fail
  rw [← hw1, ← hb]
  clear hw1 hb SZ
  have X_0 : ∀ wx, Chg (fun _ => False) w1 wx → wx.cell? ⟨b, 0, none⟩ = some (.int .i64 m.kind) := fun wx hx => (cellAt (hx.blk BX.out (fun h => h)) 0).trans rfl
  have X_1 : ∀ wx, Chg (fun _ => False) w1 wx → wx.cell? ⟨b, 1, none⟩ = some (.int .i64 m.view) := fun wx hx => (cellAt (hx.blk BX.out (fun h => h)) 1).trans rfl
  have X_2 : ∀ wx, Chg (fun _ => False) w1 wx → wx.cell? ⟨b, 2, none⟩ = some (.int .i64 m.src) := fun wx hx => (cellAt (hx.blk BX.out (fun h => h)) 2).trans rfl
  have X_3 : ∀ wx, Chg (fun _ => False) w1 wx → wx.cell? ⟨b, 3, none⟩ = some (.int .i64 m.dst) := fun wx hx => (cellAt (hx.blk BX.out (fun h => h)) 3).trans rfl
  have X_4 : ∀ wx, Chg (fun _ => False) w1 wx → wx.cell? ⟨b, 4, none⟩ = some (.int .i64 m.op) := fun wx hx => (cellAt (hx.blk BX.out (fun h => h)) 4).trans rfl
  have X_5 : ∀ wx, Chg (fun _ => False) w1 wx → wx.cell? ⟨b, 5, none⟩ = some (.int .i64 m.commit) := fun wx hx => (cellAt (hx.blk BX.out (fun h => h)) 5).trans rfl
  have X_6 : ∀ wx, Chg (fun _ => False) w1 wx → wx.cell? ⟨b, 6, none⟩ = some (.int .i64 m.normal) := fun wx hx => (cellAt (hx.blk BX.out (fun h => h)) 6).trans rfl
  have X_7 : ∀ wx, Chg (fun _ => False) w1 wx → wx.cell? ⟨b, 7, none⟩ = some (.slice B k d) := fun wx hx => (cellAt (hx.blk BX.out (fun h => h)) 7).trans rfl
  have U_0 : ∀ wx, Chg (fun _ => False) w1 wx → wx.cell? ⟨p, 0, none⟩ = some (.int .i64 r.n) := fun wx hx => (cellAt (hx.blk BP.out (fun h => h)) 0).trans rfl
  have U_1 : ∀ wx, Chg (fun _ => False) w1 wx → wx.cell? ⟨p, 1, none⟩ = some (.int .i64 r.id) := fun wx hx => (cellAt (hx.blk BP.out (fun h => h)) 1).trans rfl
  cases hmr : msgR m
  case false =>
    have HNO := hid (show meantR r m = false by unfold meantR; rw [hmr]; rfl)
    have HMR := hid hmr
    clear hmr
    have hmr := HMR.out
    refine wpB_start (fun wx : World => Chg (fun _ => False) w1 wx) (by kernel_rfl) ?_
    have hHeld : (fun wx : World => Chg (fun _ => False) w1 wx) _ := (Chg.refl (fun _ => False) w1).drew
    -- 0: t7 := load 41 t3 : 41
    refine wpB_take (i := 0) (v := ?_) (get_of_drop rfl) (by kernel_rfl) (by kernel_rfl) (by kernel_rfl) (by kernel_rfl) (fun _ _ _ h => h) (Or.inl ⟨by rfl, ?_⟩) hHeld ?_
    rotate_left
    · (intro w hSw; (try dsimp only at hSw); go_simp <;> with_reducible rfl)
    try simp only [Act.put, List.setIfInBounds_toArray, List.set_cons_zero, List.set_cons_succ]
    -- 1: t8 := CALL fn32(t7) : 4
    refine wpB_act (i := 1) (by kernel_rfl) (get_of_drop rfl) (fun K hK => ?_)
    go_simp
    refine (msgright_any (HM.out.chg hHeld (fun _ _ h => h))).mono ?_
    rintro e' wy ⟨rfl, hwy⟩
    have HW := hid (show Chg (fun _ => False) w1 wy from hHeld.trans hwy (fun _ h _ => h))
    refine hK.out _ _ ?_ (fun hHeld2 => ?_)
    · first | assumption | exact HW.out
    clear hHeld hK K
    have hHeld := hHeld2
    clear hHeld2
    try simp only [Act.put, List.setIfInBounds_toArray, List.set_cons_zero, List.set_cons_succ]
    -- 2: t9 := unOp UnOp.not 4 t8 : 4
    refine wpB_take (i := 2) (v := ?_) (get_of_drop rfl) (by kernel_rfl) (by kernel_rfl) (by kernel_rfl) (by kernel_rfl) (fun _ _ _ h => h) (Or.inl ⟨by rfl, ?_⟩) hHeld ?_
    rotate_left
    · (intro w hSw; (try dsimp only at hSw); go_simp <;> with_reducible rfl)
    try simp only [Act.put, List.setIfInBounds_toArray, List.set_cons_zero, List.set_cons_succ]
    -- 3: t10 := move t9 : 4
    refine wpB_take (i := 3) (v := ?_) (get_of_drop rfl) (by kernel_rfl) (by kernel_rfl) (by kernel_rfl) (by kernel_rfl) (fun _ _ _ h => h) (Or.inl ⟨by rfl, ?_⟩) hHeld ?_
    rotate_left
    · (intro w hSw; (try dsimp only at hSw); go_simp <;> with_reducible rfl)
    try simp only [Act.put, List.setIfInBounds_toArray, List.set_cons_zero, List.set_cons_succ]
    -- 4: t11 := fieldAddr 41 t3 3 : 0   [if ⟨3, false⟩]
    refine wpB_take (i := 4) (v := undef) (get_of_drop rfl) (by kernel_rfl) (by kernel_rfl) (by kernel_rfl) (by kernel_rfl) (fun _ _ _ h => h) (Or.inr ⟨by rfl, rfl⟩) hHeld ?_
    try simp only [Act.put, List.setIfInBounds_toArray, List.set_cons_zero, List.set_cons_succ]
    -- 5: t12 := load 3 t11 : 3   [if ⟨3, false⟩]
    refine wpB_take (i := 5) (v := undef) (get_of_drop rfl) (by kernel_rfl) (by kernel_rfl) (by kernel_rfl) (by kernel_rfl) (fun _ _ _ h => h) (Or.inr ⟨by rfl, rfl⟩) hHeld ?_
    try simp only [Act.put, List.setIfInBounds_toArray, List.set_cons_zero, List.set_cons_succ]
    -- 6: t13 := move t0 : 30   [if ⟨3, false⟩]
    refine wpB_take (i := 6) (v := undef) (get_of_drop rfl) (by kernel_rfl) (by kernel_rfl) (by kernel_rfl) (by kernel_rfl) (fun _ _ _ h => h) (Or.inr ⟨by rfl, rfl⟩) hHeld ?_
    try simp only [Act.put, List.setIfInBounds_toArray, List.set_cons_zero, List.set_cons_succ]
    -- 7: t14 := nilCheck t13 : 0   [if ⟨3, false⟩]
    refine wpB_take (i := 7) (v := undef) (get_of_drop rfl) (by kernel_rfl) (by kernel_rfl) (by kernel_rfl) (by kernel_rfl) (fun _ _ _ h => h) (Or.inr ⟨by rfl, rfl⟩) hHeld ?_
    try simp only [Act.put, List.setIfInBounds_toArray, List.set_cons_zero, List.set_cons_succ]
    -- 8: t15 := fieldAddr 100 t14 0 : 0   [if ⟨3, false⟩]
    refine wpB_take (i := 8) (v := undef) (get_of_drop rfl) (by kernel_rfl) (by kernel_rfl) (by kernel_rfl) (by kernel_rfl) (fun _ _ _ h => h) (Or.inr ⟨by rfl, rfl⟩) hHeld ?_
    try simp only [Act.put, List.setIfInBounds_toArray, List.set_cons_zero, List.set_cons_succ]
    -- 9: t16 := fieldAddr 23 t15 1 : 0   [if ⟨3, false⟩]
    refine wpB_take (i := 9) (v := undef) (get_of_drop rfl) (by kernel_rfl) (by kernel_rfl) (by kernel_rfl) (by kernel_rfl) (fun _ _ _ h => h) (Or.inr ⟨by rfl, rfl⟩) hHeld ?_
    try simp only [Act.put, List.setIfInBounds_toArray, List.set_cons_zero, List.set_cons_succ]
    -- 10: t17 := load 3 t16 : 3   [if ⟨3, false⟩]
    refine wpB_take (i := 10) (v := undef) (get_of_drop rfl) (by kernel_rfl) (by kernel_rfl) (by kernel_rfl) (by kernel_rfl) (fun _ _ _ h => h) (Or.inr ⟨by rfl, rfl⟩) hHeld ?_
    try simp only [Act.put, List.setIfInBounds_toArray, List.set_cons_zero, List.set_cons_succ]
    -- 11: t18 := binOp BinOp.neq 3 t12 t17 3 : 4   [if ⟨3, false⟩]
    refine wpB_take (i := 11) (v := undef) (get_of_drop rfl) (by kernel_rfl) (by kernel_rfl) (by kernel_rfl) (by kernel_rfl) (fun _ _ _ h => h) (Or.inr ⟨by rfl, rfl⟩) hHeld ?_
    try simp only [Act.put, List.setIfInBounds_toArray, List.set_cons_zero, List.set_cons_succ]
    -- 12: t19 := pick t10 #true t18 : 4
    refine wpB_take (i := 12) (v := ?_) (get_of_drop rfl) (by kernel_rfl) (by kernel_rfl) (by kernel_rfl) (by kernel_rfl) (fun _ _ _ h => h) (Or.inl ⟨by rfl, ?_⟩) hHeld ?_
    rotate_left
    · (intro w hSw; (try dsimp only at hSw); go_simp <;> with_reducible rfl)
    try simp only [Act.put, List.setIfInBounds_toArray, List.set_cons_zero, List.set_cons_succ]
    -- 13: t20 := move t19 : 4
    refine wpB_take (i := 13) (v := ?_) (get_of_drop rfl) (by kernel_rfl) (by kernel_rfl) (by kernel_rfl) (by kernel_rfl) (fun _ _ _ h => h) (Or.inl ⟨by rfl, ?_⟩) hHeld ?_
    rotate_left
    · (intro w hSw; (try dsimp only at hSw); go_simp <;> with_reducible rfl)
    try simp only [Act.put, List.setIfInBounds_toArray, List.set_cons_zero, List.set_cons_succ]
    -- 14: t21 := fieldAddr 41 t3 2 : 0   [if ⟨13, false⟩]
    refine wpB_take (i := 14) (v := undef) (get_of_drop rfl) (by kernel_rfl) (by kernel_rfl) (by kernel_rfl) (by kernel_rfl) (fun _ _ _ h => h) (Or.inr ⟨by rfl, rfl⟩) hHeld ?_
    try simp only [Act.put, List.setIfInBounds_toArray, List.set_cons_zero, List.set_cons_succ]
    -- 15: t22 := load 3 t21 : 3   [if ⟨13, false⟩]
    refine wpB_take (i := 15) (v := undef) (get_of_drop rfl) (by kernel_rfl) (by kernel_rfl) (by kernel_rfl) (by kernel_rfl) (fun _ _ _ h => h) (Or.inr ⟨by rfl, rfl⟩) hHeld ?_
    try simp only [Act.put, List.setIfInBounds_toArray, List.set_cons_zero, List.set_cons_succ]
    -- 16: t23 := move t0 : 30   [if ⟨13, false⟩]
    refine wpB_take (i := 16) (v := undef) (get_of_drop rfl) (by kernel_rfl) (by kernel_rfl) (by kernel_rfl) (by kernel_rfl) (fun _ _ _ h => h) (Or.inr ⟨by rfl, rfl⟩) hHeld ?_
    try simp only [Act.put, List.setIfInBounds_toArray, List.set_cons_zero, List.set_cons_succ]
    -- 17: t24 := nilCheck t23 : 0   [if ⟨13, false⟩]
    refine wpB_take (i := 17) (v := undef) (get_of_drop rfl) (by kernel_rfl) (by kernel_rfl) (by kernel_rfl) (by kernel_rfl) (fun _ _ _ h => h) (Or.inr ⟨by rfl, rfl⟩) hHeld ?_
    try simp only [Act.put, List.setIfInBounds_toArray, List.set_cons_zero, List.set_cons_succ]
    -- 18: t25 := fieldAddr 100 t24 0 : 0   [if ⟨13, false⟩]
    refine wpB_take (i := 18) (v := undef) (get_of_drop rfl) (by kernel_rfl) (by kernel_rfl) (by kernel_rfl) (by kernel_rfl) (fun _ _ _ h => h) (Or.inr ⟨by rfl, rfl⟩) hHeld ?_
    try simp only [Act.put, List.setIfInBounds_toArray, List.set_cons_zero, List.set_cons_succ]
    -- 19: t26 := fieldAddr 23 t25 1 : 0   [if ⟨13, false⟩]
    refine wpB_take (i := 19) (v := undef) (get_of_drop rfl) (by kernel_rfl) (by kernel_rfl) (by kernel_rfl) (by kernel_rfl) (fun _ _ _ h => h) (Or.inr ⟨by rfl, rfl⟩) hHeld ?_
    try simp only [Act.put, List.setIfInBounds_toArray, List.set_cons_zero, List.set_cons_succ]
    -- 20: t27 := load 3 t26 : 3   [if ⟨13, false⟩]
    refine wpB_take (i := 20) (v := undef) (get_of_drop rfl) (by kernel_rfl) (by kernel_rfl) (by kernel_rfl) (by kernel_rfl) (fun _ _ _ h => h) (Or.inr ⟨by rfl, rfl⟩) hHeld ?_
    try simp only [Act.put, List.setIfInBounds_toArray, List.set_cons_zero, List.set_cons_succ]
    -- 21: t28 := binOp BinOp.eql 3 t22 t27 3 : 4   [if ⟨13, false⟩]
    refine wpB_take (i := 21) (v := undef) (get_of_drop rfl) (by kernel_rfl) (by kernel_rfl) (by kernel_rfl) (by kernel_rfl) (fun _ _ _ h => h) (Or.inr ⟨by rfl, rfl⟩) hHeld ?_
    try simp only [Act.put, List.setIfInBounds_toArray, List.set_cons_zero, List.set_cons_succ]
    -- 22: t29 := pick t20 #true t28 : 4
    refine wpB_take (i := 22) (v := ?_) (get_of_drop rfl) (by kernel_rfl) (by kernel_rfl) (by kernel_rfl) (by kernel_rfl) (fun _ _ _ h => h) (Or.inl ⟨by rfl, ?_⟩) hHeld ?_
    rotate_left
    · (intro w hSw; (try dsimp only at hSw); go_simp <;> with_reducible rfl)
    try simp only [Act.put, List.setIfInBounds_toArray, List.set_cons_zero, List.set_cons_succ]
    -- 23: t30 := move t29 : 4
    refine wpB_take (i := 23) (v := ?_) (get_of_drop rfl) (by kernel_rfl) (by kernel_rfl) (by kernel_rfl) (by kernel_rfl) (fun _ _ _ h => h) (Or.inl ⟨by rfl, ?_⟩) hHeld ?_
    rotate_left
    · (intro w hSw; (try dsimp only at hSw); go_simp <;> with_reducible rfl)
    try simp only [Act.put, List.setIfInBounds_toArray, List.set_cons_zero, List.set_cons_succ]
    -- 24: t31 := fieldAddr 41 t3 2 : 0   [if ⟨23, false⟩]
    refine wpB_take (i := 24) (v := undef) (get_of_drop rfl) (by kernel_rfl) (by kernel_rfl) (by kernel_rfl) (by kernel_rfl) (fun _ _ _ h => h) (Or.inr ⟨by rfl, rfl⟩) hHeld ?_
    try simp only [Act.put, List.setIfInBounds_toArray, List.set_cons_zero, List.set_cons_succ]
    -- 25: t32 := load 3 t31 : 3   [if ⟨23, false⟩]
    refine wpB_take (i := 25) (v := undef) (get_of_drop rfl) (by kernel_rfl) (by kernel_rfl) (by kernel_rfl) (by kernel_rfl) (fun _ _ _ h => h) (Or.inr ⟨by rfl, rfl⟩) hHeld ?_
    try simp only [Act.put, List.setIfInBounds_toArray, List.set_cons_zero, List.set_cons_succ]
    -- 26: t33 := move t0 : 30   [if ⟨23, false⟩]
    refine wpB_take (i := 26) (v := undef) (get_of_drop rfl) (by kernel_rfl) (by kernel_rfl) (by kernel_rfl) (by kernel_rfl) (fun _ _ _ h => h) (Or.inr ⟨by rfl, rfl⟩) hHeld ?_
    try simp only [Act.put, List.setIfInBounds_toArray, List.set_cons_zero, List.set_cons_succ]
    -- 27: t34 := nilCheck t33 : 0   [if ⟨23, false⟩]
    refine wpB_take (i := 27) (v := undef) (get_of_drop rfl) (by kernel_rfl) (by kernel_rfl) (by kernel_rfl) (by kernel_rfl) (fun _ _ _ h => h) (Or.inr ⟨by rfl, rfl⟩) hHeld ?_
    try simp only [Act.put, List.setIfInBounds_toArray, List.set_cons_zero, List.set_cons_succ]
    -- 28: t35 := fieldAddr 100 t34 0 : 0   [if ⟨23, false⟩]
    refine wpB_take (i := 28) (v := undef) (get_of_drop rfl) (by kernel_rfl) (by kernel_rfl) (by kernel_rfl) (by kernel_rfl) (fun _ _ _ h => h) (Or.inr ⟨by rfl, rfl⟩) hHeld ?_
    try simp only [Act.put, List.setIfInBounds_toArray, List.set_cons_zero, List.set_cons_succ]
    -- 29: t36 := fieldAddr 23 t35 0 : 0   [if ⟨23, false⟩]
    refine wpB_take (i := 29) (v := undef) (get_of_drop rfl) (by kernel_rfl) (by kernel_rfl) (by kernel_rfl) (by kernel_rfl) (fun _ _ _ h => h) (Or.inr ⟨by rfl, rfl⟩) hHeld ?_
    try simp only [Act.put, List.setIfInBounds_toArray, List.set_cons_zero, List.set_cons_succ]
    -- 30: t37 := load 3 t36 : 3   [if ⟨23, false⟩]
    refine wpB_take (i := 30) (v := undef) (get_of_drop rfl) (by kernel_rfl) (by kernel_rfl) (by kernel_rfl) (by kernel_rfl) (fun _ _ _ h => h) (Or.inr ⟨by rfl, rfl⟩) hHeld ?_
    try simp only [Act.put, List.setIfInBounds_toArray, List.set_cons_zero, List.set_cons_succ]
    -- 31: t38 := binOp BinOp.geq 3 t32 t37 3 : 4   [if ⟨23, false⟩]
    refine wpB_take (i := 31) (v := undef) (get_of_drop rfl) (by kernel_rfl) (by kernel_rfl) (by kernel_rfl) (by kernel_rfl) (fun _ _ _ h => h) (Or.inr ⟨by rfl, rfl⟩) hHeld ?_
    try simp only [Act.put, List.setIfInBounds_toArray, List.set_cons_zero, List.set_cons_succ]
    -- 32: t39 := pick t30 #true t38 : 4
    refine wpB_take (i := 32) (v := ?_) (get_of_drop rfl) (by kernel_rfl) (by kernel_rfl) (by kernel_rfl) (by kernel_rfl) (fun _ _ _ h => h) (Or.inl ⟨by rfl, ?_⟩) hHeld ?_
    rotate_left
    · (intro w hSw; (try dsimp only at hSw); go_simp <;> with_reducible rfl)
    try simp only [Act.put, List.setIfInBounds_toArray, List.set_cons_zero, List.set_cons_succ]
    refine wpB_done (by kernel_rfl) ?_ _
    clear hmr
    go_wp2_with fail
    go_ret2
    have e1 : deliverR r m = (r, 10) := by unfold deliverR; rw [if_pos HNO.out]
    rw [e1]
    exact Stood.none_ HH.out HO.out (C1.out.trans hHeld (fun _ h _ => h)) rfl
  have HMR := hid hmr
  by_cases hd1 : m.dst = r.id
  case neg =>
    have HNO := hid (show meantR r m = false by rw [Bool.eq_false_iff]; intro h; exact hd1 (meantR_iff.1 h).2.1)
    have hd2 : (m.dst != r.id) = true := by simp [hd1]
    clear hd1
    refine wpB_start (fun wx : World => Chg (fun _ => False) w1 wx) (by kernel_rfl) ?_
    have hHeld : (fun wx : World => Chg (fun _ => False) w1 wx) _ := (Chg.refl (fun _ => False) w1).drew
    -- 0: t7 := load 41 t3 : 41
    refine wpB_take (i := 0) (v := ?_) (get_of_drop rfl) (by kernel_rfl) (by kernel_rfl) (by kernel_rfl) (by kernel_rfl) (fun _ _ _ h => h) (Or.inl ⟨by rfl, ?_⟩) hHeld ?_
    rotate_left
    · (intro w hSw; (try dsimp only at hSw); go_simp <;> with_reducible rfl)
    try simp only [Act.put, List.setIfInBounds_toArray, List.set_cons_zero, List.set_cons_succ]
    -- 1: t8 := CALL fn32(t7) : 4
    refine wpB_act (i := 1) (by kernel_rfl) (get_of_drop rfl) (fun K hK => ?_)
    go_simp
    refine (msgright_any (HM.out.chg hHeld (fun _ _ h => h))).mono ?_
    rintro e' wy ⟨rfl, hwy⟩
    have HW := hid (show Chg (fun _ => False) w1 wy from hHeld.trans hwy (fun _ h _ => h))
    refine hK.out _ _ ?_ (fun hHeld2 => ?_)
    · first | assumption | exact HW.out
    clear hHeld hK K
    have hHeld := hHeld2
    clear hHeld2
    try simp only [Act.put, List.setIfInBounds_toArray, List.set_cons_zero, List.set_cons_succ]
    -- 2: t9 := unOp UnOp.not 4 t8 : 4
    refine wpB_take (i := 2) (v := ?_) (get_of_drop rfl) (by kernel_rfl) (by kernel_rfl) (by kernel_rfl) (by kernel_rfl) (fun _ _ _ h => h) (Or.inl ⟨by rfl, ?_⟩) hHeld ?_
    rotate_left
    · (intro w hSw; (try dsimp only at hSw); go_simp <;> with_reducible rfl)
    try simp only [Act.put, List.setIfInBounds_toArray, List.set_cons_zero, List.set_cons_succ]
    -- 3: t10 := move t9 : 4
    refine wpB_take (i := 3) (v := ?_) (get_of_drop rfl) (by kernel_rfl) (by kernel_rfl) (by kernel_rfl) (by kernel_rfl) (fun _ _ _ h => h) (Or.inl ⟨by rfl, ?_⟩) hHeld ?_
    rotate_left
    · (intro w hSw; (try dsimp only at hSw); go_simp <;> with_reducible rfl)
    try simp only [Act.put, List.setIfInBounds_toArray, List.set_cons_zero, List.set_cons_succ]
    -- 4: t11 := fieldAddr 41 t3 3 : 0   [if ⟨3, false⟩]
    refine wpB_take (i := 4) (v := ?_) (get_of_drop rfl) (by kernel_rfl) (by kernel_rfl) (by kernel_rfl) (by kernel_rfl) (fun _ _ _ h => h) (Or.inl ⟨by rfl, ?_⟩) hHeld ?_
    rotate_left
    · (intro w hSw; (try dsimp only at hSw); go_simp <;> with_reducible rfl)
    try simp only [Act.put, List.setIfInBounds_toArray, List.set_cons_zero, List.set_cons_succ]
    -- 5: t12 := load 3 t11 : 3   [if ⟨3, false⟩]
    refine wpB_take (i := 5) (v := ?_) (get_of_drop rfl) (by kernel_rfl) (by kernel_rfl) (by kernel_rfl) (by kernel_rfl) (fun _ _ _ h => h) (Or.inl ⟨by rfl, ?_⟩) hHeld ?_
    rotate_left
    · (intro w hSw; (try dsimp only at hSw); go_simp <;> with_reducible rfl)
    try simp only [Act.put, List.setIfInBounds_toArray, List.set_cons_zero, List.set_cons_succ]
    -- 6: t13 := move t0 : 30   [if ⟨3, false⟩]
    refine wpB_take (i := 6) (v := ?_) (get_of_drop rfl) (by kernel_rfl) (by kernel_rfl) (by kernel_rfl) (by kernel_rfl) (fun _ _ _ h => h) (Or.inl ⟨by rfl, ?_⟩) hHeld ?_
    rotate_left
    · (intro w hSw; (try dsimp only at hSw); go_simp <;> with_reducible rfl)
    try simp only [Act.put, List.setIfInBounds_toArray, List.set_cons_zero, List.set_cons_succ]
    -- 7: t14 := nilCheck t13 : 0   [if ⟨3, false⟩]
    refine wpB_take (i := 7) (v := ?_) (get_of_drop rfl) (by kernel_rfl) (by kernel_rfl) (by kernel_rfl) (by kernel_rfl) (fun _ _ _ h => h) (Or.inl ⟨by rfl, ?_⟩) hHeld ?_
    rotate_left
    · (intro w hSw; (try dsimp only at hSw); go_simp <;> with_reducible rfl)
    try simp only [Act.put, List.setIfInBounds_toArray, List.set_cons_zero, List.set_cons_succ]
    -- 8: t15 := fieldAddr 100 t14 0 : 0   [if ⟨3, false⟩]
    refine wpB_take (i := 8) (v := ?_) (get_of_drop rfl) (by kernel_rfl) (by kernel_rfl) (by kernel_rfl) (by kernel_rfl) (fun _ _ _ h => h) (Or.inl ⟨by rfl, ?_⟩) hHeld ?_
    rotate_left
    · (intro w hSw; (try dsimp only at hSw); go_simp <;> with_reducible rfl)
    try simp only [Act.put, List.setIfInBounds_toArray, List.set_cons_zero, List.set_cons_succ]
    -- 9: t16 := fieldAddr 23 t15 1 : 0   [if ⟨3, false⟩]
    refine wpB_take (i := 9) (v := ?_) (get_of_drop rfl) (by kernel_rfl) (by kernel_rfl) (by kernel_rfl) (by kernel_rfl) (fun _ _ _ h => h) (Or.inl ⟨by rfl, ?_⟩) hHeld ?_
    rotate_left
    · (intro w hSw; (try dsimp only at hSw); go_simp <;> with_reducible rfl)
    try simp only [Act.put, List.setIfInBounds_toArray, List.set_cons_zero, List.set_cons_succ]
    -- 10: t17 := load 3 t16 : 3   [if ⟨3, false⟩]
    refine wpB_take (i := 10) (v := ?_) (get_of_drop rfl) (by kernel_rfl) (by kernel_rfl) (by kernel_rfl) (by kernel_rfl) (fun _ _ _ h => h) (Or.inl ⟨by rfl, ?_⟩) hHeld ?_
    rotate_left
    · (intro w hSw; (try dsimp only at hSw); go_simp <;> with_reducible rfl)
    try simp only [Act.put, List.setIfInBounds_toArray, List.set_cons_zero, List.set_cons_succ]
    -- 11: t18 := binOp BinOp.neq 3 t12 t17 3 : 4   [if ⟨3, false⟩]
    refine wpB_take (i := 11) (v := ?_) (get_of_drop rfl) (by kernel_rfl) (by kernel_rfl) (by kernel_rfl) (by kernel_rfl) (fun _ _ _ h => h) (Or.inl ⟨by rfl, ?_⟩) hHeld ?_
    rotate_left
    · (intro w hSw; (try dsimp only at hSw); go_simp <;> with_reducible rfl)
    try simp only [Act.put, List.setIfInBounds_toArray, List.set_cons_zero, List.set_cons_succ]
    -- 12: t19 := pick t10 #true t18 : 4
    refine wpB_take (i := 12) (v := ?_) (get_of_drop rfl) (by kernel_rfl) (by kernel_rfl) (by kernel_rfl) (by kernel_rfl) (fun _ _ _ h => h) (Or.inl ⟨by rfl, ?_⟩) hHeld ?_
    rotate_left
    · (intro w hSw; (try dsimp only at hSw); go_simp <;> with_reducible rfl)
    try simp only [Act.put, List.setIfInBounds_toArray, List.set_cons_zero, List.set_cons_succ]
    -- 13: t20 := move t19 : 4
    refine wpB_take (i := 13) (v := ?_) (get_of_drop rfl) (by kernel_rfl) (by kernel_rfl) (by kernel_rfl) (by kernel_rfl) (fun _ _ _ h => h) (Or.inl ⟨by rfl, ?_⟩) hHeld ?_
    rotate_left
    · (intro w hSw; (try dsimp only at hSw); go_simp <;> with_reducible rfl)
    try simp only [Act.put, List.setIfInBounds_toArray, List.set_cons_zero, List.set_cons_succ]
    -- 14: t21 := fieldAddr 41 t3 2 : 0   [if ⟨13, false⟩]
    refine wpB_take (i := 14) (v := undef) (get_of_drop rfl) (by kernel_rfl) (by kernel_rfl) (by kernel_rfl) (by kernel_rfl) (fun _ _ _ h => h) (Or.inr ⟨by rfl, rfl⟩) hHeld ?_
    try simp only [Act.put, List.setIfInBounds_toArray, List.set_cons_zero, List.set_cons_succ]
    -- 15: t22 := load 3 t21 : 3   [if ⟨13, false⟩]
    refine wpB_take (i := 15) (v := undef) (get_of_drop rfl) (by kernel_rfl) (by kernel_rfl) (by kernel_rfl) (by kernel_rfl) (fun _ _ _ h => h) (Or.inr ⟨by rfl, rfl⟩) hHeld ?_
    try simp only [Act.put, List.setIfInBounds_toArray, List.set_cons_zero, List.set_cons_succ]
    -- 16: t23 := move t0 : 30   [if ⟨13, false⟩]
    refine wpB_take (i := 16) (v := undef) (get_of_drop rfl) (by kernel_rfl) (by kernel_rfl) (by kernel_rfl) (by kernel_rfl) (fun _ _ _ h => h) (Or.inr ⟨by rfl, rfl⟩) hHeld ?_
    try simp only [Act.put, List.setIfInBounds_toArray, List.set_cons_zero, List.set_cons_succ]
    -- 17: t24 := nilCheck t23 : 0   [if ⟨13, false⟩]
    refine wpB_take (i := 17) (v := undef) (get_of_drop rfl) (by kernel_rfl) (by kernel_rfl) (by kernel_rfl) (by kernel_rfl) (fun _ _ _ h => h) (Or.inr ⟨by rfl, rfl⟩) hHeld ?_
    try simp only [Act.put, List.setIfInBounds_toArray, List.set_cons_zero, List.set_cons_succ]
    -- 18: t25 := fieldAddr 100 t24 0 : 0   [if ⟨13, false⟩]
    refine wpB_take (i := 18) (v := undef) (get_of_drop rfl) (by kernel_rfl) (by kernel_rfl) (by kernel_rfl) (by kernel_rfl) (fun _ _ _ h => h) (Or.inr ⟨by rfl, rfl⟩) hHeld ?_
    try simp only [Act.put, List.setIfInBounds_toArray, List.set_cons_zero, List.set_cons_succ]
    -- 19: t26 := fieldAddr 23 t25 1 : 0   [if ⟨13, false⟩]
    refine wpB_take (i := 19) (v := undef) (get_of_drop rfl) (by kernel_rfl) (by kernel_rfl) (by kernel_rfl) (by kernel_rfl) (fun _ _ _ h => h) (Or.inr ⟨by rfl, rfl⟩) hHeld ?_
    try simp only [Act.put, List.setIfInBounds_toArray, List.set_cons_zero, List.set_cons_succ]
    -- 20: t27 := load 3 t26 : 3   [if ⟨13, false⟩]
    refine wpB_take (i := 20) (v := undef) (get_of_drop rfl) (by kernel_rfl) (by kernel_rfl) (by kernel_rfl) (by kernel_rfl) (fun _ _ _ h => h) (Or.inr ⟨by rfl, rfl⟩) hHeld ?_
    try simp only [Act.put, List.setIfInBounds_toArray, List.set_cons_zero, List.set_cons_succ]
    -- 21: t28 := binOp BinOp.eql 3 t22 t27 3 : 4   [if ⟨13, false⟩]
    refine wpB_take (i := 21) (v := undef) (get_of_drop rfl) (by kernel_rfl) (by kernel_rfl) (by kernel_rfl) (by kernel_rfl) (fun _ _ _ h => h) (Or.inr ⟨by rfl, rfl⟩) hHeld ?_
    try simp only [Act.put, List.setIfInBounds_toArray, List.set_cons_zero, List.set_cons_succ]
    -- 22: t29 := pick t20 #true t28 : 4
    refine wpB_take (i := 22) (v := ?_) (get_of_drop rfl) (by kernel_rfl) (by kernel_rfl) (by kernel_rfl) (by kernel_rfl) (fun _ _ _ h => h) (Or.inl ⟨by rfl, ?_⟩) hHeld ?_
    rotate_left
    · (intro w hSw; (try dsimp only at hSw); go_simp <;> with_reducible rfl)
    try simp only [Act.put, List.setIfInBounds_toArray, List.set_cons_zero, List.set_cons_succ]
    -- 23: t30 := move t29 : 4
    refine wpB_take (i := 23) (v := ?_) (get_of_drop rfl) (by kernel_rfl) (by kernel_rfl) (by kernel_rfl) (by kernel_rfl) (fun _ _ _ h => h) (Or.inl ⟨by rfl, ?_⟩) hHeld ?_
    rotate_left
    · (intro w hSw; (try dsimp only at hSw); go_simp <;> with_reducible rfl)
    try simp only [Act.put, List.setIfInBounds_toArray, List.set_cons_zero, List.set_cons_succ]
    -- 24: t31 := fieldAddr 41 t3 2 : 0   [if ⟨23, false⟩]
    refine wpB_take (i := 24) (v := undef) (get_of_drop rfl) (by kernel_rfl) (by kernel_rfl) (by kernel_rfl) (by kernel_rfl) (fun _ _ _ h => h) (Or.inr ⟨by rfl, rfl⟩) hHeld ?_
    try simp only [Act.put, List.setIfInBounds_toArray, List.set_cons_zero, List.set_cons_succ]
    -- 25: t32 := load 3 t31 : 3   [if ⟨23, false⟩]
    refine wpB_take (i := 25) (v := undef) (get_of_drop rfl) (by kernel_rfl) (by kernel_rfl) (by kernel_rfl) (by kernel_rfl) (fun _ _ _ h => h) (Or.inr ⟨by rfl, rfl⟩) hHeld ?_
    try simp only [Act.put, List.setIfInBounds_toArray, List.set_cons_zero, List.set_cons_succ]
    -- 26: t33 := move t0 : 30   [if ⟨23, false⟩]
    refine wpB_take (i := 26) (v := undef) (get_of_drop rfl) (by kernel_rfl) (by kernel_rfl) (by kernel_rfl) (by kernel_rfl) (fun _ _ _ h => h) (Or.inr ⟨by rfl, rfl⟩) hHeld ?_
    try simp only [Act.put, List.setIfInBounds_toArray, List.set_cons_zero, List.set_cons_succ]
    -- 27: t34 := nilCheck t33 : 0   [if ⟨23, false⟩]
    refine wpB_take (i := 27) (v := undef) (get_of_drop rfl) (by kernel_rfl) (by kernel_rfl) (by kernel_rfl) (by kernel_rfl) (fun _ _ _ h => h) (Or.inr ⟨by rfl, rfl⟩) hHeld ?_
    try simp only [Act.put, List.setIfInBounds_toArray, List.set_cons_zero, List.set_cons_succ]
    -- 28: t35 := fieldAddr 100 t34 0 : 0   [if ⟨23, false⟩]
    refine wpB_take (i := 28) (v := undef) (get_of_drop rfl) (by kernel_rfl) (by kernel_rfl) (by kernel_rfl) (by kernel_rfl) (fun _ _ _ h => h) (Or.inr ⟨by rfl, rfl⟩) hHeld ?_
    try simp only [Act.put, List.setIfInBounds_toArray, List.set_cons_zero, List.set_cons_succ]
    -- 29: t36 := fieldAddr 23 t35 0 : 0   [if ⟨23, false⟩]
    refine wpB_take (i := 29) (v := undef) (get_of_drop rfl) (by kernel_rfl) (by kernel_rfl) (by kernel_rfl) (by kernel_rfl) (fun _ _ _ h => h) (Or.inr ⟨by rfl, rfl⟩) hHeld ?_
    try simp only [Act.put, List.setIfInBounds_toArray, List.set_cons_zero, List.set_cons_succ]
    -- 30: t37 := load 3 t36 : 3   [if ⟨23, false⟩]
    refine wpB_take (i := 30) (v := undef) (get_of_drop rfl) (by kernel_rfl) (by kernel_rfl) (by kernel_rfl) (by kernel_rfl) (fun _ _ _ h => h) (Or.inr ⟨by rfl, rfl⟩) hHeld ?_
    try simp only [Act.put, List.setIfInBounds_toArray, List.set_cons_zero, List.set_cons_succ]
    -- 31: t38 := binOp BinOp.geq 3 t32 t37 3 : 4   [if ⟨23, false⟩]
    refine wpB_take (i := 31) (v := undef) (get_of_drop rfl) (by kernel_rfl) (by kernel_rfl) (by kernel_rfl) (by kernel_rfl) (fun _ _ _ h => h) (Or.inr ⟨by rfl, rfl⟩) hHeld ?_
    try simp only [Act.put, List.setIfInBounds_toArray, List.set_cons_zero, List.set_cons_succ]
    -- 32: t39 := pick t30 #true t38 : 4
    refine wpB_take (i := 32) (v := ?_) (get_of_drop rfl) (by kernel_rfl) (by kernel_rfl) (by kernel_rfl) (by kernel_rfl) (fun _ _ _ h => h) (Or.inl ⟨by rfl, ?_⟩) hHeld ?_
    rotate_left
    · (intro w hSw; (try dsimp only at hSw); go_simp <;> with_reducible rfl)
    try simp only [Act.put, List.setIfInBounds_toArray, List.set_cons_zero, List.set_cons_succ]
    refine wpB_done (by kernel_rfl) ?_ _
    clear hmr hd2
    go_wp2_with fail
    go_ret2
    have e1 : deliverR r m = (r, 10) := by unfold deliverR; rw [if_pos HNO.out]
    rw [e1]
    exact Stood.none_ HH.out HO.out (C1.out.trans hHeld (fun _ h _ => h)) rfl
  have hd2 : (m.dst != r.id) = false := by simp [hd1]
  have HD := hid hd1
  clear hd1
  by_cases hs1 : m.src = r.id
  case pos =>
    have HNO := hid (show meantR r m = false by rw [Bool.eq_false_iff]; intro h; exact (meantR_iff.1 h).2.2.1 hs1)
    have hs2 : (m.src == r.id) = true := by simp [hs1]
    clear hs1
    refine wpB_start (fun wx : World => Chg (fun _ => False) w1 wx) (by kernel_rfl) ?_
    have hHeld : (fun wx : World => Chg (fun _ => False) w1 wx) _ := (Chg.refl (fun _ => False) w1).drew
    -- 0: t7 := load 41 t3 : 41
    refine wpB_take (i := 0) (v := ?_) (get_of_drop rfl) (by kernel_rfl) (by kernel_rfl) (by kernel_rfl) (by kernel_rfl) (fun _ _ _ h => h) (Or.inl ⟨by rfl, ?_⟩) hHeld ?_
    rotate_left
    · (intro w hSw; (try dsimp only at hSw); go_simp <;> with_reducible rfl)
    try simp only [Act.put, List.setIfInBounds_toArray, List.set_cons_zero, List.set_cons_succ]
    -- 1: t8 := CALL fn32(t7) : 4
    refine wpB_act (i := 1) (by kernel_rfl) (get_of_drop rfl) (fun K hK => ?_)
    go_simp
    refine (msgright_any (HM.out.chg hHeld (fun _ _ h => h))).mono ?_
    rintro e' wy ⟨rfl, hwy⟩
    have HW := hid (show Chg (fun _ => False) w1 wy from hHeld.trans hwy (fun _ h _ => h))
    refine hK.out _ _ ?_ (fun hHeld2 => ?_)
    · first | assumption | exact HW.out
    clear hHeld hK K
    have hHeld := hHeld2
    clear hHeld2
    try simp only [Act.put, List.setIfInBounds_toArray, List.set_cons_zero, List.set_cons_succ]
    -- 2: t9 := unOp UnOp.not 4 t8 : 4
    refine wpB_take (i := 2) (v := ?_) (get_of_drop rfl) (by kernel_rfl) (by kernel_rfl) (by kernel_rfl) (by kernel_rfl) (fun _ _ _ h => h) (Or.inl ⟨by rfl, ?_⟩) hHeld ?_
    rotate_left
    · (intro w hSw; (try dsimp only at hSw); go_simp <;> with_reducible rfl)
    try simp only [Act.put, List.setIfInBounds_toArray, List.set_cons_zero, List.set_cons_succ]
    -- 3: t10 := move t9 : 4
    refine wpB_take (i := 3) (v := ?_) (get_of_drop rfl) (by kernel_rfl) (by kernel_rfl) (by kernel_rfl) (by kernel_rfl) (fun _ _ _ h => h) (Or.inl ⟨by rfl, ?_⟩) hHeld ?_
    rotate_left
    · (intro w hSw; (try dsimp only at hSw); go_simp <;> with_reducible rfl)
    try simp only [Act.put, List.setIfInBounds_toArray, List.set_cons_zero, List.set_cons_succ]
    -- 4: t11 := fieldAddr 41 t3 3 : 0   [if ⟨3, false⟩]
    refine wpB_take (i := 4) (v := ?_) (get_of_drop rfl) (by kernel_rfl) (by kernel_rfl) (by kernel_rfl) (by kernel_rfl) (fun _ _ _ h => h) (Or.inl ⟨by rfl, ?_⟩) hHeld ?_
    rotate_left
    · (intro w hSw; (try dsimp only at hSw); go_simp <;> with_reducible rfl)
    try simp only [Act.put, List.setIfInBounds_toArray, List.set_cons_zero, List.set_cons_succ]
    -- 5: t12 := load 3 t11 : 3   [if ⟨3, false⟩]
    refine wpB_take (i := 5) (v := ?_) (get_of_drop rfl) (by kernel_rfl) (by kernel_rfl) (by kernel_rfl) (by kernel_rfl) (fun _ _ _ h => h) (Or.inl ⟨by rfl, ?_⟩) hHeld ?_
    rotate_left
    · (intro w hSw; (try dsimp only at hSw); go_simp <;> with_reducible rfl)
    try simp only [Act.put, List.setIfInBounds_toArray, List.set_cons_zero, List.set_cons_succ]
    -- 6: t13 := move t0 : 30   [if ⟨3, false⟩]
    refine wpB_take (i := 6) (v := ?_) (get_of_drop rfl) (by kernel_rfl) (by kernel_rfl) (by kernel_rfl) (by kernel_rfl) (fun _ _ _ h => h) (Or.inl ⟨by rfl, ?_⟩) hHeld ?_
    rotate_left
    · (intro w hSw; (try dsimp only at hSw); go_simp <;> with_reducible rfl)
    try simp only [Act.put, List.setIfInBounds_toArray, List.set_cons_zero, List.set_cons_succ]
    -- 7: t14 := nilCheck t13 : 0   [if ⟨3, false⟩]
    refine wpB_take (i := 7) (v := ?_) (get_of_drop rfl) (by kernel_rfl) (by kernel_rfl) (by kernel_rfl) (by kernel_rfl) (fun _ _ _ h => h) (Or.inl ⟨by rfl, ?_⟩) hHeld ?_
    rotate_left
    · (intro w hSw; (try dsimp only at hSw); go_simp <;> with_reducible rfl)
    try simp only [Act.put, List.setIfInBounds_toArray, List.set_cons_zero, List.set_cons_succ]
    -- 8: t15 := fieldAddr 100 t14 0 : 0   [if ⟨3, false⟩]
    refine wpB_take (i := 8) (v := ?_) (get_of_drop rfl) (by kernel_rfl) (by kernel_rfl) (by kernel_rfl) (by kernel_rfl) (fun _ _ _ h => h) (Or.inl ⟨by rfl, ?_⟩) hHeld ?_
    rotate_left
    · (intro w hSw; (try dsimp only at hSw); go_simp <;> with_reducible rfl)
    try simp only [Act.put, List.setIfInBounds_toArray, List.set_cons_zero, List.set_cons_succ]
    -- 9: t16 := fieldAddr 23 t15 1 : 0   [if ⟨3, false⟩]
    refine wpB_take (i := 9) (v := ?_) (get_of_drop rfl) (by kernel_rfl) (by kernel_rfl) (by kernel_rfl) (by kernel_rfl) (fun _ _ _ h => h) (Or.inl ⟨by rfl, ?_⟩) hHeld ?_
    rotate_left
    · (intro w hSw; (try dsimp only at hSw); go_simp <;> with_reducible rfl)
    try simp only [Act.put, List.setIfInBounds_toArray, List.set_cons_zero, List.set_cons_succ]
    -- 10: t17 := load 3 t16 : 3   [if ⟨3, false⟩]
    refine wpB_take (i := 10) (v := ?_) (get_of_drop rfl) (by kernel_rfl) (by kernel_rfl) (by kernel_rfl) (by kernel_rfl) (fun _ _ _ h => h) (Or.inl ⟨by rfl, ?_⟩) hHeld ?_
    rotate_left
    · (intro w hSw; (try dsimp only at hSw); go_simp <;> with_reducible rfl)
    try simp only [Act.put, List.setIfInBounds_toArray, List.set_cons_zero, List.set_cons_succ]
    -- 11: t18 := binOp BinOp.neq 3 t12 t17 3 : 4   [if ⟨3, false⟩]
    refine wpB_take (i := 11) (v := ?_) (get_of_drop rfl) (by kernel_rfl) (by kernel_rfl) (by kernel_rfl) (by kernel_rfl) (fun _ _ _ h => h) (Or.inl ⟨by rfl, ?_⟩) hHeld ?_
    rotate_left
    · (intro w hSw; (try dsimp only at hSw); go_simp <;> with_reducible rfl)
    try simp only [Act.put, List.setIfInBounds_toArray, List.set_cons_zero, List.set_cons_succ]
    -- 12: t19 := pick t10 #true t18 : 4
    refine wpB_take (i := 12) (v := ?_) (get_of_drop rfl) (by kernel_rfl) (by kernel_rfl) (by kernel_rfl) (by kernel_rfl) (fun _ _ _ h => h) (Or.inl ⟨by rfl, ?_⟩) hHeld ?_
    rotate_left
    · (intro w hSw; (try dsimp only at hSw); go_simp <;> with_reducible rfl)
    try simp only [Act.put, List.setIfInBounds_toArray, List.set_cons_zero, List.set_cons_succ]
    -- 13: t20 := move t19 : 4
    refine wpB_take (i := 13) (v := ?_) (get_of_drop rfl) (by kernel_rfl) (by kernel_rfl) (by kernel_rfl) (by kernel_rfl) (fun _ _ _ h => h) (Or.inl ⟨by rfl, ?_⟩) hHeld ?_
    rotate_left
    · (intro w hSw; (try dsimp only at hSw); go_simp <;> with_reducible rfl)
    try simp only [Act.put, List.setIfInBounds_toArray, List.set_cons_zero, List.set_cons_succ]
    -- 14: t21 := fieldAddr 41 t3 2 : 0   [if ⟨13, false⟩]
    refine wpB_take (i := 14) (v := ?_) (get_of_drop rfl) (by kernel_rfl) (by kernel_rfl) (by kernel_rfl) (by kernel_rfl) (fun _ _ _ h => h) (Or.inl ⟨by rfl, ?_⟩) hHeld ?_
    rotate_left
    · (intro w hSw; (try dsimp only at hSw); go_simp <;> with_reducible rfl)
    try simp only [Act.put, List.setIfInBounds_toArray, List.set_cons_zero, List.set_cons_succ]
    -- 15: t22 := load 3 t21 : 3   [if ⟨13, false⟩]
    refine wpB_take (i := 15) (v := ?_) (get_of_drop rfl) (by kernel_rfl) (by kernel_rfl) (by kernel_rfl) (by kernel_rfl) (fun _ _ _ h => h) (Or.inl ⟨by rfl, ?_⟩) hHeld ?_
    rotate_left
    · (intro w hSw; (try dsimp only at hSw); go_simp <;> with_reducible rfl)
    try simp only [Act.put, List.setIfInBounds_toArray, List.set_cons_zero, List.set_cons_succ]
    -- 16: t23 := move t0 : 30   [if ⟨13, false⟩]
    refine wpB_take (i := 16) (v := ?_) (get_of_drop rfl) (by kernel_rfl) (by kernel_rfl) (by kernel_rfl) (by kernel_rfl) (fun _ _ _ h => h) (Or.inl ⟨by rfl, ?_⟩) hHeld ?_
    rotate_left
    · (intro w hSw; (try dsimp only at hSw); go_simp <;> with_reducible rfl)
    try simp only [Act.put, List.setIfInBounds_toArray, List.set_cons_zero, List.set_cons_succ]
    -- 17: t24 := nilCheck t23 : 0   [if ⟨13, false⟩]
    refine wpB_take (i := 17) (v := ?_) (get_of_drop rfl) (by kernel_rfl) (by kernel_rfl) (by kernel_rfl) (by kernel_rfl) (fun _ _ _ h => h) (Or.inl ⟨by rfl, ?_⟩) hHeld ?_
    rotate_left
    · (intro w hSw; (try dsimp only at hSw); go_simp <;> with_reducible rfl)
    try simp only [Act.put, List.setIfInBounds_toArray, List.set_cons_zero, List.set_cons_succ]
    -- 18: t25 := fieldAddr 100 t24 0 : 0   [if ⟨13, false⟩]
    refine wpB_take (i := 18) (v := ?_) (get_of_drop rfl) (by kernel_rfl) (by kernel_rfl) (by kernel_rfl) (by kernel_rfl) (fun _ _ _ h => h) (Or.inl ⟨by rfl, ?_⟩) hHeld ?_
    rotate_left
    · (intro w hSw; (try dsimp only at hSw); go_simp <;> with_reducible rfl)
    try simp only [Act.put, List.setIfInBounds_toArray, List.set_cons_zero, List.set_cons_succ]
    -- 19: t26 := fieldAddr 23 t25 1 : 0   [if ⟨13, false⟩]
    refine wpB_take (i := 19) (v := ?_) (get_of_drop rfl) (by kernel_rfl) (by kernel_rfl) (by kernel_rfl) (by kernel_rfl) (fun _ _ _ h => h) (Or.inl ⟨by rfl, ?_⟩) hHeld ?_
    rotate_left
    · (intro w hSw; (try dsimp only at hSw); go_simp <;> with_reducible rfl)
    try simp only [Act.put, List.setIfInBounds_toArray, List.set_cons_zero, List.set_cons_succ]
    -- 20: t27 := load 3 t26 : 3   [if ⟨13, false⟩]
    refine wpB_take (i := 20) (v := ?_) (get_of_drop rfl) (by kernel_rfl) (by kernel_rfl) (by kernel_rfl) (by kernel_rfl) (fun _ _ _ h => h) (Or.inl ⟨by rfl, ?_⟩) hHeld ?_
    rotate_left
    · (intro w hSw; (try dsimp only at hSw); go_simp <;> with_reducible rfl)
    try simp only [Act.put, List.setIfInBounds_toArray, List.set_cons_zero, List.set_cons_succ]
    -- 21: t28 := binOp BinOp.eql 3 t22 t27 3 : 4   [if ⟨13, false⟩]
    refine wpB_take (i := 21) (v := ?_) (get_of_drop rfl) (by kernel_rfl) (by kernel_rfl) (by kernel_rfl) (by kernel_rfl) (fun _ _ _ h => h) (Or.inl ⟨by rfl, ?_⟩) hHeld ?_
    rotate_left
    · (intro w hSw; (try dsimp only at hSw); go_simp <;> with_reducible rfl)
    try simp only [Act.put, List.setIfInBounds_toArray, List.set_cons_zero, List.set_cons_succ]
    -- 22: t29 := pick t20 #true t28 : 4
    refine wpB_take (i := 22) (v := ?_) (get_of_drop rfl) (by kernel_rfl) (by kernel_rfl) (by kernel_rfl) (by kernel_rfl) (fun _ _ _ h => h) (Or.inl ⟨by rfl, ?_⟩) hHeld ?_
    rotate_left
    · (intro w hSw; (try dsimp only at hSw); go_simp <;> with_reducible rfl)
    try simp only [Act.put, List.setIfInBounds_toArray, List.set_cons_zero, List.set_cons_succ]
    -- 23: t30 := move t29 : 4
    refine wpB_take (i := 23) (v := ?_) (get_of_drop rfl) (by kernel_rfl) (by kernel_rfl) (by kernel_rfl) (by kernel_rfl) (fun _ _ _ h => h) (Or.inl ⟨by rfl, ?_⟩) hHeld ?_
    rotate_left
    · (intro w hSw; (try dsimp only at hSw); go_simp <;> with_reducible rfl)
    try simp only [Act.put, List.setIfInBounds_toArray, List.set_cons_zero, List.set_cons_succ]
    -- 24: t31 := fieldAddr 41 t3 2 : 0   [if ⟨23, false⟩]
    refine wpB_take (i := 24) (v := undef) (get_of_drop rfl) (by kernel_rfl) (by kernel_rfl) (by kernel_rfl) (by kernel_rfl) (fun _ _ _ h => h) (Or.inr ⟨by rfl, rfl⟩) hHeld ?_
    try simp only [Act.put, List.setIfInBounds_toArray, List.set_cons_zero, List.set_cons_succ]
    -- 25: t32 := load 3 t31 : 3   [if ⟨23, false⟩]
    refine wpB_take (i := 25) (v := undef) (get_of_drop rfl) (by kernel_rfl) (by kernel_rfl) (by kernel_rfl) (by kernel_rfl) (fun _ _ _ h => h) (Or.inr ⟨by rfl, rfl⟩) hHeld ?_
    try simp only [Act.put, List.setIfInBounds_toArray, List.set_cons_zero, List.set_cons_succ]
    -- 26: t33 := move t0 : 30   [if ⟨23, false⟩]
    refine wpB_take (i := 26) (v := undef) (get_of_drop rfl) (by kernel_rfl) (by kernel_rfl) (by kernel_rfl) (by kernel_rfl) (fun _ _ _ h => h) (Or.inr ⟨by rfl, rfl⟩) hHeld ?_
    try simp only [Act.put, List.setIfInBounds_toArray, List.set_cons_zero, List.set_cons_succ]
    -- 27: t34 := nilCheck t33 : 0   [if ⟨23, false⟩]
    refine wpB_take (i := 27) (v := undef) (get_of_drop rfl) (by kernel_rfl) (by kernel_rfl) (by kernel_rfl) (by kernel_rfl) (fun _ _ _ h => h) (Or.inr ⟨by rfl, rfl⟩) hHeld ?_
    try simp only [Act.put, List.setIfInBounds_toArray, List.set_cons_zero, List.set_cons_succ]
    -- 28: t35 := fieldAddr 100 t34 0 : 0   [if ⟨23, false⟩]
    refine wpB_take (i := 28) (v := undef) (get_of_drop rfl) (by kernel_rfl) (by kernel_rfl) (by kernel_rfl) (by kernel_rfl) (fun _ _ _ h => h) (Or.inr ⟨by rfl, rfl⟩) hHeld ?_
    try simp only [Act.put, List.setIfInBounds_toArray, List.set_cons_zero, List.set_cons_succ]
    -- 29: t36 := fieldAddr 23 t35 0 : 0   [if ⟨23, false⟩]
    refine wpB_take (i := 29) (v := undef) (get_of_drop rfl) (by kernel_rfl) (by kernel_rfl) (by kernel_rfl) (by kernel_rfl) (fun _ _ _ h => h) (Or.inr ⟨by rfl, rfl⟩) hHeld ?_
    try simp only [Act.put, List.setIfInBounds_toArray, List.set_cons_zero, List.set_cons_succ]
    -- 30: t37 := load 3 t36 : 3   [if ⟨23, false⟩]
    refine wpB_take (i := 30) (v := undef) (get_of_drop rfl) (by kernel_rfl) (by kernel_rfl) (by kernel_rfl) (by kernel_rfl) (fun _ _ _ h => h) (Or.inr ⟨by rfl, rfl⟩) hHeld ?_
    try simp only [Act.put, List.setIfInBounds_toArray, List.set_cons_zero, List.set_cons_succ]
    -- 31: t38 := binOp BinOp.geq 3 t32 t37 3 : 4   [if ⟨23, false⟩]
    refine wpB_take (i := 31) (v := undef) (get_of_drop rfl) (by kernel_rfl) (by kernel_rfl) (by kernel_rfl) (by kernel_rfl) (fun _ _ _ h => h) (Or.inr ⟨by rfl, rfl⟩) hHeld ?_
    try simp only [Act.put, List.setIfInBounds_toArray, List.set_cons_zero, List.set_cons_succ]
    -- 32: t39 := pick t30 #true t38 : 4
    refine wpB_take (i := 32) (v := ?_) (get_of_drop rfl) (by kernel_rfl) (by kernel_rfl) (by kernel_rfl) (by kernel_rfl) (fun _ _ _ h => h) (Or.inl ⟨by rfl, ?_⟩) hHeld ?_
    rotate_left
    · (intro w hSw; (try dsimp only at hSw); go_simp <;> with_reducible rfl)
    try simp only [Act.put, List.setIfInBounds_toArray, List.set_cons_zero, List.set_cons_succ]
    refine wpB_done (by kernel_rfl) ?_ _
    clear hmr hd2 hs2
    go_wp2_with fail
    go_ret2
    have e1 : deliverR r m = (r, 10) := by unfold deliverR; rw [if_pos HNO.out]
    rw [e1]
    exact Stood.none_ HH.out HO.out (C1.out.trans hHeld (fun _ h _ => h)) rfl
  have hs2 : (m.src == r.id) = false := by simp [hs1]
  have HS1 := hid hs1
  clear hs1
  by_cases hn1 : m.src < r.n
  case neg =>
    have HNO := hid (show meantR r m = false by rw [Bool.eq_false_iff]; intro h; exact hn1 (meantR_iff.1 h).2.2.2)
    have hn2 : r.n ≤ m.src := by omega
    clear hn1
    refine wpB_start (fun wx : World => Chg (fun _ => False) w1 wx) (by kernel_rfl) ?_
    have hHeld : (fun wx : World => Chg (fun _ => False) w1 wx) _ := (Chg.refl (fun _ => False) w1).drew
    -- 0: t7 := load 41 t3 : 41
    refine wpB_take (i := 0) (v := ?_) (get_of_drop rfl) (by kernel_rfl) (by kernel_rfl) (by kernel_rfl) (by kernel_rfl) (fun _ _ _ h => h) (Or.inl ⟨by rfl, ?_⟩) hHeld ?_
    rotate_left
    · (intro w hSw; (try dsimp only at hSw); go_simp <;> with_reducible rfl)
    try simp only [Act.put, List.setIfInBounds_toArray, List.set_cons_zero, List.set_cons_succ]
    -- 1: t8 := CALL fn32(t7) : 4
    refine wpB_act (i := 1) (by kernel_rfl) (get_of_drop rfl) (fun K hK => ?_)
    go_simp
    refine (msgright_any (HM.out.chg hHeld (fun _ _ h => h))).mono ?_
    rintro e' wy ⟨rfl, hwy⟩
    have HW := hid (show Chg (fun _ => False) w1 wy from hHeld.trans hwy (fun _ h _ => h))
    refine hK.out _ _ ?_ (fun hHeld2 => ?_)
    · first | assumption | exact HW.out
    clear hHeld hK K
    have hHeld := hHeld2
    clear hHeld2
    try simp only [Act.put, List.setIfInBounds_toArray, List.set_cons_zero, List.set_cons_succ]
    -- 2: t9 := unOp UnOp.not 4 t8 : 4
    refine wpB_take (i := 2) (v := ?_) (get_of_drop rfl) (by kernel_rfl) (by kernel_rfl) (by kernel_rfl) (by kernel_rfl) (fun _ _ _ h => h) (Or.inl ⟨by rfl, ?_⟩) hHeld ?_
    rotate_left
    · (intro w hSw; (try dsimp only at hSw); go_simp <;> with_reducible rfl)
    try simp only [Act.put, List.setIfInBounds_toArray, List.set_cons_zero, List.set_cons_succ]
    -- 3: t10 := move t9 : 4
    refine wpB_take (i := 3) (v := ?_) (get_of_drop rfl) (by kernel_rfl) (by kernel_rfl) (by kernel_rfl) (by kernel_rfl) (fun _ _ _ h => h) (Or.inl ⟨by rfl, ?_⟩) hHeld ?_
    rotate_left
    · (intro w hSw; (try dsimp only at hSw); go_simp <;> with_reducible rfl)
    try simp only [Act.put, List.setIfInBounds_toArray, List.set_cons_zero, List.set_cons_succ]
    -- 4: t11 := fieldAddr 41 t3 3 : 0   [if ⟨3, false⟩]
    refine wpB_take (i := 4) (v := ?_) (get_of_drop rfl) (by kernel_rfl) (by kernel_rfl) (by kernel_rfl) (by kernel_rfl) (fun _ _ _ h => h) (Or.inl ⟨by rfl, ?_⟩) hHeld ?_
    rotate_left
    · (intro w hSw; (try dsimp only at hSw); go_simp <;> with_reducible rfl)
    try simp only [Act.put, List.setIfInBounds_toArray, List.set_cons_zero, List.set_cons_succ]
    -- 5: t12 := load 3 t11 : 3   [if ⟨3, false⟩]
    refine wpB_take (i := 5) (v := ?_) (get_of_drop rfl) (by kernel_rfl) (by kernel_rfl) (by kernel_rfl) (by kernel_rfl) (fun _ _ _ h => h) (Or.inl ⟨by rfl, ?_⟩) hHeld ?_
    rotate_left
    · (intro w hSw; (try dsimp only at hSw); go_simp <;> with_reducible rfl)
    try simp only [Act.put, List.setIfInBounds_toArray, List.set_cons_zero, List.set_cons_succ]
    -- 6: t13 := move t0 : 30   [if ⟨3, false⟩]
    refine wpB_take (i := 6) (v := ?_) (get_of_drop rfl) (by kernel_rfl) (by kernel_rfl) (by kernel_rfl) (by kernel_rfl) (fun _ _ _ h => h) (Or.inl ⟨by rfl, ?_⟩) hHeld ?_
    rotate_left
    · (intro w hSw; (try dsimp only at hSw); go_simp <;> with_reducible rfl)
    try simp only [Act.put, List.setIfInBounds_toArray, List.set_cons_zero, List.set_cons_succ]
    -- 7: t14 := nilCheck t13 : 0   [if ⟨3, false⟩]
    refine wpB_take (i := 7) (v := ?_) (get_of_drop rfl) (by kernel_rfl) (by kernel_rfl) (by kernel_rfl) (by kernel_rfl) (fun _ _ _ h => h) (Or.inl ⟨by rfl, ?_⟩) hHeld ?_
    rotate_left
    · (intro w hSw; (try dsimp only at hSw); go_simp <;> with_reducible rfl)
    try simp only [Act.put, List.setIfInBounds_toArray, List.set_cons_zero, List.set_cons_succ]
    -- 8: t15 := fieldAddr 100 t14 0 : 0   [if ⟨3, false⟩]
    refine wpB_take (i := 8) (v := ?_) (get_of_drop rfl) (by kernel_rfl) (by kernel_rfl) (by kernel_rfl) (by kernel_rfl) (fun _ _ _ h => h) (Or.inl ⟨by rfl, ?_⟩) hHeld ?_
    rotate_left
    · (intro w hSw; (try dsimp only at hSw); go_simp <;> with_reducible rfl)
    try simp only [Act.put, List.setIfInBounds_toArray, List.set_cons_zero, List.set_cons_succ]
    -- 9: t16 := fieldAddr 23 t15 1 : 0   [if ⟨3, false⟩]
    refine wpB_take (i := 9) (v := ?_) (get_of_drop rfl) (by kernel_rfl) (by kernel_rfl) (by kernel_rfl) (by kernel_rfl) (fun _ _ _ h => h) (Or.inl ⟨by rfl, ?_⟩) hHeld ?_
    rotate_left
    · (intro w hSw; (try dsimp only at hSw); go_simp <;> with_reducible rfl)
    try simp only [Act.put, List.setIfInBounds_toArray, List.set_cons_zero, List.set_cons_succ]
    -- 10: t17 := load 3 t16 : 3   [if ⟨3, false⟩]
    refine wpB_take (i := 10) (v := ?_) (get_of_drop rfl) (by kernel_rfl) (by kernel_rfl) (by kernel_rfl) (by kernel_rfl) (fun _ _ _ h => h) (Or.inl ⟨by rfl, ?_⟩) hHeld ?_
    rotate_left
    · (intro w hSw; (try dsimp only at hSw); go_simp <;> with_reducible rfl)
    try simp only [Act.put, List.setIfInBounds_toArray, List.set_cons_zero, List.set_cons_succ]
    -- 11: t18 := binOp BinOp.neq 3 t12 t17 3 : 4   [if ⟨3, false⟩]
    refine wpB_take (i := 11) (v := ?_) (get_of_drop rfl) (by kernel_rfl) (by kernel_rfl) (by kernel_rfl) (by kernel_rfl) (fun _ _ _ h => h) (Or.inl ⟨by rfl, ?_⟩) hHeld ?_
    rotate_left
    · (intro w hSw; (try dsimp only at hSw); go_simp <;> with_reducible rfl)
    try simp only [Act.put, List.setIfInBounds_toArray, List.set_cons_zero, List.set_cons_succ]
    -- 12: t19 := pick t10 #true t18 : 4
    refine wpB_take (i := 12) (v := ?_) (get_of_drop rfl) (by kernel_rfl) (by kernel_rfl) (by kernel_rfl) (by kernel_rfl) (fun _ _ _ h => h) (Or.inl ⟨by rfl, ?_⟩) hHeld ?_
    rotate_left
    · (intro w hSw; (try dsimp only at hSw); go_simp <;> with_reducible rfl)
    try simp only [Act.put, List.setIfInBounds_toArray, List.set_cons_zero, List.set_cons_succ]
    -- 13: t20 := move t19 : 4
    refine wpB_take (i := 13) (v := ?_) (get_of_drop rfl) (by kernel_rfl) (by kernel_rfl) (by kernel_rfl) (by kernel_rfl) (fun _ _ _ h => h) (Or.inl ⟨by rfl, ?_⟩) hHeld ?_
    rotate_left
    · (intro w hSw; (try dsimp only at hSw); go_simp <;> with_reducible rfl)
    try simp only [Act.put, List.setIfInBounds_toArray, List.set_cons_zero, List.set_cons_succ]
    -- 14: t21 := fieldAddr 41 t3 2 : 0   [if ⟨13, false⟩]
    refine wpB_take (i := 14) (v := ?_) (get_of_drop rfl) (by kernel_rfl) (by kernel_rfl) (by kernel_rfl) (by kernel_rfl) (fun _ _ _ h => h) (Or.inl ⟨by rfl, ?_⟩) hHeld ?_
    rotate_left
    · (intro w hSw; (try dsimp only at hSw); go_simp <;> with_reducible rfl)
    try simp only [Act.put, List.setIfInBounds_toArray, List.set_cons_zero, List.set_cons_succ]
    -- 15: t22 := load 3 t21 : 3   [if ⟨13, false⟩]
    refine wpB_take (i := 15) (v := ?_) (get_of_drop rfl) (by kernel_rfl) (by kernel_rfl) (by kernel_rfl) (by kernel_rfl) (fun _ _ _ h => h) (Or.inl ⟨by rfl, ?_⟩) hHeld ?_
    rotate_left
    · (intro w hSw; (try dsimp only at hSw); go_simp <;> with_reducible rfl)
    try simp only [Act.put, List.setIfInBounds_toArray, List.set_cons_zero, List.set_cons_succ]
    -- 16: t23 := move t0 : 30   [if ⟨13, false⟩]
    refine wpB_take (i := 16) (v := ?_) (get_of_drop rfl) (by kernel_rfl) (by kernel_rfl) (by kernel_rfl) (by kernel_rfl) (fun _ _ _ h => h) (Or.inl ⟨by rfl, ?_⟩) hHeld ?_
    rotate_left
    · (intro w hSw; (try dsimp only at hSw); go_simp <;> with_reducible rfl)
    try simp only [Act.put, List.setIfInBounds_toArray, List.set_cons_zero, List.set_cons_succ]
    -- 17: t24 := nilCheck t23 : 0   [if ⟨13, false⟩]
    refine wpB_take (i := 17) (v := ?_) (get_of_drop rfl) (by kernel_rfl) (by kernel_rfl) (by kernel_rfl) (by kernel_rfl) (fun _ _ _ h => h) (Or.inl ⟨by rfl, ?_⟩) hHeld ?_
    rotate_left
    · (intro w hSw; (try dsimp only at hSw); go_simp <;> with_reducible rfl)
    try simp only [Act.put, List.setIfInBounds_toArray, List.set_cons_zero, List.set_cons_succ]
    -- 18: t25 := fieldAddr 100 t24 0 : 0   [if ⟨13, false⟩]
    refine wpB_take (i := 18) (v := ?_) (get_of_drop rfl) (by kernel_rfl) (by kernel_rfl) (by kernel_rfl) (by kernel_rfl) (fun _ _ _ h => h) (Or.inl ⟨by rfl, ?_⟩) hHeld ?_
    rotate_left
    · (intro w hSw; (try dsimp only at hSw); go_simp <;> with_reducible rfl)
    try simp only [Act.put, List.setIfInBounds_toArray, List.set_cons_zero, List.set_cons_succ]
    -- 19: t26 := fieldAddr 23 t25 1 : 0   [if ⟨13, false⟩]
    refine wpB_take (i := 19) (v := ?_) (get_of_drop rfl) (by kernel_rfl) (by kernel_rfl) (by kernel_rfl) (by kernel_rfl) (fun _ _ _ h => h) (Or.inl ⟨by rfl, ?_⟩) hHeld ?_
    rotate_left
    · (intro w hSw; (try dsimp only at hSw); go_simp <;> with_reducible rfl)
    try simp only [Act.put, List.setIfInBounds_toArray, List.set_cons_zero, List.set_cons_succ]
    -- 20: t27 := load 3 t26 : 3   [if ⟨13, false⟩]
    refine wpB_take (i := 20) (v := ?_) (get_of_drop rfl) (by kernel_rfl) (by kernel_rfl) (by kernel_rfl) (by kernel_rfl) (fun _ _ _ h => h) (Or.inl ⟨by rfl, ?_⟩) hHeld ?_
    rotate_left
    · (intro w hSw; (try dsimp only at hSw); go_simp <;> with_reducible rfl)
    try simp only [Act.put, List.setIfInBounds_toArray, List.set_cons_zero, List.set_cons_succ]
    -- 21: t28 := binOp BinOp.eql 3 t22 t27 3 : 4   [if ⟨13, false⟩]
    refine wpB_take (i := 21) (v := ?_) (get_of_drop rfl) (by kernel_rfl) (by kernel_rfl) (by kernel_rfl) (by kernel_rfl) (fun _ _ _ h => h) (Or.inl ⟨by rfl, ?_⟩) hHeld ?_
    rotate_left
    · (intro w hSw; (try dsimp only at hSw); go_simp <;> with_reducible rfl)
    try simp only [Act.put, List.setIfInBounds_toArray, List.set_cons_zero, List.set_cons_succ]
    -- 22: t29 := pick t20 #true t28 : 4
    refine wpB_take (i := 22) (v := ?_) (get_of_drop rfl) (by kernel_rfl) (by kernel_rfl) (by kernel_rfl) (by kernel_rfl) (fun _ _ _ h => h) (Or.inl ⟨by rfl, ?_⟩) hHeld ?_
    rotate_left
    · (intro w hSw; (try dsimp only at hSw); go_simp <;> with_reducible rfl)
    try simp only [Act.put, List.setIfInBounds_toArray, List.set_cons_zero, List.set_cons_succ]
    -- 23: t30 := move t29 : 4
    refine wpB_take (i := 23) (v := ?_) (get_of_drop rfl) (by kernel_rfl) (by kernel_rfl) (by kernel_rfl) (by kernel_rfl) (fun _ _ _ h => h) (Or.inl ⟨by rfl, ?_⟩) hHeld ?_
    rotate_left
    · (intro w hSw; (try dsimp only at hSw); go_simp <;> with_reducible rfl)
    try simp only [Act.put, List.setIfInBounds_toArray, List.set_cons_zero, List.set_cons_succ]
    -- 24: t31 := fieldAddr 41 t3 2 : 0   [if ⟨23, false⟩]
    refine wpB_take (i := 24) (v := ?_) (get_of_drop rfl) (by kernel_rfl) (by kernel_rfl) (by kernel_rfl) (by kernel_rfl) (fun _ _ _ h => h) (Or.inl ⟨by rfl, ?_⟩) hHeld ?_
    rotate_left
    · (intro w hSw; (try dsimp only at hSw); go_simp <;> with_reducible rfl)
    try simp only [Act.put, List.setIfInBounds_toArray, List.set_cons_zero, List.set_cons_succ]
    -- 25: t32 := load 3 t31 : 3   [if ⟨23, false⟩]
    refine wpB_take (i := 25) (v := ?_) (get_of_drop rfl) (by kernel_rfl) (by kernel_rfl) (by kernel_rfl) (by kernel_rfl) (fun _ _ _ h => h) (Or.inl ⟨by rfl, ?_⟩) hHeld ?_
    rotate_left
    · (intro w hSw; (try dsimp only at hSw); go_simp <;> with_reducible rfl)
    try simp only [Act.put, List.setIfInBounds_toArray, List.set_cons_zero, List.set_cons_succ]
    -- 26: t33 := move t0 : 30   [if ⟨23, false⟩]
    refine wpB_take (i := 26) (v := ?_) (get_of_drop rfl) (by kernel_rfl) (by kernel_rfl) (by kernel_rfl) (by kernel_rfl) (fun _ _ _ h => h) (Or.inl ⟨by rfl, ?_⟩) hHeld ?_
    rotate_left
    · (intro w hSw; (try dsimp only at hSw); go_simp <;> with_reducible rfl)
    try simp only [Act.put, List.setIfInBounds_toArray, List.set_cons_zero, List.set_cons_succ]
    -- 27: t34 := nilCheck t33 : 0   [if ⟨23, false⟩]
    refine wpB_take (i := 27) (v := ?_) (get_of_drop rfl) (by kernel_rfl) (by kernel_rfl) (by kernel_rfl) (by kernel_rfl) (fun _ _ _ h => h) (Or.inl ⟨by rfl, ?_⟩) hHeld ?_
    rotate_left
    · (intro w hSw; (try dsimp only at hSw); go_simp <;> with_reducible rfl)
    try simp only [Act.put, List.setIfInBounds_toArray, List.set_cons_zero, List.set_cons_succ]
    -- 28: t35 := fieldAddr 100 t34 0 : 0   [if ⟨23, false⟩]
    refine wpB_take (i := 28) (v := ?_) (get_of_drop rfl) (by kernel_rfl) (by kernel_rfl) (by kernel_rfl) (by kernel_rfl) (fun _ _ _ h => h) (Or.inl ⟨by rfl, ?_⟩) hHeld ?_
    rotate_left
    · (intro w hSw; (try dsimp only at hSw); go_simp <;> with_reducible rfl)
    try simp only [Act.put, List.setIfInBounds_toArray, List.set_cons_zero, List.set_cons_succ]
    -- 29: t36 := fieldAddr 23 t35 0 : 0   [if ⟨23, false⟩]
    refine wpB_take (i := 29) (v := ?_) (get_of_drop rfl) (by kernel_rfl) (by kernel_rfl) (by kernel_rfl) (by kernel_rfl) (fun _ _ _ h => h) (Or.inl ⟨by rfl, ?_⟩) hHeld ?_
    rotate_left
    · (intro w hSw; (try dsimp only at hSw); go_simp <;> with_reducible rfl)
    try simp only [Act.put, List.setIfInBounds_toArray, List.set_cons_zero, List.set_cons_succ]
    -- 30: t37 := load 3 t36 : 3   [if ⟨23, false⟩]
    refine wpB_take (i := 30) (v := ?_) (get_of_drop rfl) (by kernel_rfl) (by kernel_rfl) (by kernel_rfl) (by kernel_rfl) (fun _ _ _ h => h) (Or.inl ⟨by rfl, ?_⟩) hHeld ?_
    rotate_left
    · (intro w hSw; (try dsimp only at hSw); go_simp <;> with_reducible rfl)
    try simp only [Act.put, List.setIfInBounds_toArray, List.set_cons_zero, List.set_cons_succ]
    -- 31: t38 := binOp BinOp.geq 3 t32 t37 3 : 4   [if ⟨23, false⟩]
    refine wpB_take (i := 31) (v := ?_) (get_of_drop rfl) (by kernel_rfl) (by kernel_rfl) (by kernel_rfl) (by kernel_rfl) (fun _ _ _ h => h) (Or.inl ⟨by rfl, ?_⟩) hHeld ?_
    rotate_left
    · (intro w hSw; (try dsimp only at hSw); go_simp <;> with_reducible rfl)
    try simp only [Act.put, List.setIfInBounds_toArray, List.set_cons_zero, List.set_cons_succ]
    -- 32: t39 := pick t30 #true t38 : 4
    refine wpB_take (i := 32) (v := ?_) (get_of_drop rfl) (by kernel_rfl) (by kernel_rfl) (by kernel_rfl) (by kernel_rfl) (fun _ _ _ h => h) (Or.inl ⟨by rfl, ?_⟩) hHeld ?_
    rotate_left
    · (intro w hSw; (try dsimp only at hSw); go_simp <;> with_reducible rfl)
    try simp only [Act.put, List.setIfInBounds_toArray, List.set_cons_zero, List.set_cons_succ]
    refine wpB_done (by kernel_rfl) ?_ _
    clear hmr hd2 hs2
    go_wp2_with fail
    go_ret2
    have e1 : deliverR r m = (r, 10) := by unfold deliverR; rw [if_pos HNO.out]
    rw [e1]
    exact Stood.none_ HH.out HO.out (C1.out.trans hHeld (fun _ h _ => h)) rfl
  have hn2 : ¬ r.n ≤ m.src := by omega
  have HYES := hid (show ¬ meantR r m = false by rw [Bool.not_eq_false, meantR_iff]; exact ⟨HMR.out, HD.out, HS1.out, hn1⟩)
  have HS := hid (show 0 ≤ m.src ∧ m.src < r.n from ⟨(msgR_num HMR.out).2.2.2.1.1, hn1⟩)
  clear hn1
  refine wpB_start (fun wx : World => Chg (fun _ => False) w1 wx) (by kernel_rfl) ?_
  have hHeld : (fun wx : World => Chg (fun _ => False) w1 wx) _ := (Chg.refl (fun _ => False) w1).drew
  -- 0: t7 := load 41 t3 : 41
  refine wpB_take (i := 0) (v := ?_) (get_of_drop rfl) (by kernel_rfl) (by kernel_rfl) (by kernel_rfl) (by kernel_rfl) (fun _ _ _ h => h) (Or.inl ⟨by rfl, ?_⟩) hHeld ?_
  rotate_left
  · (intro w hSw; (try dsimp only at hSw); go_simp <;> with_reducible rfl)
  try simp only [Act.put, List.setIfInBounds_toArray, List.set_cons_zero, List.set_cons_succ]
  -- 1: t8 := CALL fn32(t7) : 4
  refine wpB_act (i := 1) (by kernel_rfl) (get_of_drop rfl) (fun K hK => ?_)
  go_simp
  refine (msgright_any (HM.out.chg hHeld (fun _ _ h => h))).mono ?_
  rintro e' wy ⟨rfl, hwy⟩
  have HW := hid (show Chg (fun _ => False) w1 wy from hHeld.trans hwy (fun _ h _ => h))
  refine hK.out _ _ ?_ (fun hHeld2 => ?_)
  · first | assumption | exact HW.out
  clear hHeld hK K
  have hHeld := hHeld2
  clear hHeld2
  try simp only [Act.put, List.setIfInBounds_toArray, List.set_cons_zero, List.set_cons_succ]
  -- 2: t9 := unOp UnOp.not 4 t8 : 4
  refine wpB_take (i := 2) (v := ?_) (get_of_drop rfl) (by kernel_rfl) (by kernel_rfl) (by kernel_rfl) (by kernel_rfl) (fun _ _ _ h => h) (Or.inl ⟨by rfl, ?_⟩) hHeld ?_
  rotate_left
  · (intro w hSw; (try dsimp only at hSw); go_simp <;> with_reducible rfl)
  try simp only [Act.put, List.setIfInBounds_toArray, List.set_cons_zero, List.set_cons_succ]
  -- 3: t10 := move t9 : 4
  refine wpB_take (i := 3) (v := ?_) (get_of_drop rfl) (by kernel_rfl) (by kernel_rfl) (by kernel_rfl) (by kernel_rfl) (fun _ _ _ h => h) (Or.inl ⟨by rfl, ?_⟩) hHeld ?_
  rotate_left
  · (intro w hSw; (try dsimp only at hSw); go_simp <;> with_reducible rfl)
  try simp only [Act.put, List.setIfInBounds_toArray, List.set_cons_zero, List.set_cons_succ]
  -- 4: t11 := fieldAddr 41 t3 3 : 0   [if ⟨3, false⟩]
  refine wpB_take (i := 4) (v := ?_) (get_of_drop rfl) (by kernel_rfl) (by kernel_rfl) (by kernel_rfl) (by kernel_rfl) (fun _ _ _ h => h) (Or.inl ⟨by rfl, ?_⟩) hHeld ?_
  rotate_left
  · (intro w hSw; (try dsimp only at hSw); go_simp <;> with_reducible rfl)
  try simp only [Act.put, List.setIfInBounds_toArray, List.set_cons_zero, List.set_cons_succ]
  -- 5: t12 := load 3 t11 : 3   [if ⟨3, false⟩]
  refine wpB_take (i := 5) (v := ?_) (get_of_drop rfl) (by kernel_rfl) (by kernel_rfl) (by kernel_rfl) (by kernel_rfl) (fun _ _ _ h => h) (Or.inl ⟨by rfl, ?_⟩) hHeld ?_
  rotate_left
  · (intro w hSw; (try dsimp only at hSw); go_simp <;> with_reducible rfl)
  try simp only [Act.put, List.setIfInBounds_toArray, List.set_cons_zero, List.set_cons_succ]
  -- 6: t13 := move t0 : 30   [if ⟨3, false⟩]
  refine wpB_take (i := 6) (v := ?_) (get_of_drop rfl) (by kernel_rfl) (by kernel_rfl) (by kernel_rfl) (by kernel_rfl) (fun _ _ _ h => h) (Or.inl ⟨by rfl, ?_⟩) hHeld ?_
  rotate_left
  · (intro w hSw; (try dsimp only at hSw); go_simp <;> with_reducible rfl)
  try simp only [Act.put, List.setIfInBounds_toArray, List.set_cons_zero, List.set_cons_succ]
  -- 7: t14 := nilCheck t13 : 0   [if ⟨3, false⟩]
  refine wpB_take (i := 7) (v := ?_) (get_of_drop rfl) (by kernel_rfl) (by kernel_rfl) (by kernel_rfl) (by kernel_rfl) (fun _ _ _ h => h) (Or.inl ⟨by rfl, ?_⟩) hHeld ?_
  rotate_left
  · (intro w hSw; (try dsimp only at hSw); go_simp <;> with_reducible rfl)
  try simp only [Act.put, List.setIfInBounds_toArray, List.set_cons_zero, List.set_cons_succ]
  -- 8: t15 := fieldAddr 100 t14 0 : 0   [if ⟨3, false⟩]
  refine wpB_take (i := 8) (v := ?_) (get_of_drop rfl) (by kernel_rfl) (by kernel_rfl) (by kernel_rfl) (by kernel_rfl) (fun _ _ _ h => h) (Or.inl ⟨by rfl, ?_⟩) hHeld ?_
  rotate_left
  · (intro w hSw; (try dsimp only at hSw); go_simp <;> with_reducible rfl)
  try simp only [Act.put, List.setIfInBounds_toArray, List.set_cons_zero, List.set_cons_succ]
  -- 9: t16 := fieldAddr 23 t15 1 : 0   [if ⟨3, false⟩]
  refine wpB_take (i := 9) (v := ?_) (get_of_drop rfl) (by kernel_rfl) (by kernel_rfl) (by kernel_rfl) (by kernel_rfl) (fun _ _ _ h => h) (Or.inl ⟨by rfl, ?_⟩) hHeld ?_
  rotate_left
  · (intro w hSw; (try dsimp only at hSw); go_simp <;> with_reducible rfl)
  try simp only [Act.put, List.setIfInBounds_toArray, List.set_cons_zero, List.set_cons_succ]
  -- 10: t17 := load 3 t16 : 3   [if ⟨3, false⟩]
  refine wpB_take (i := 10) (v := ?_) (get_of_drop rfl) (by kernel_rfl) (by kernel_rfl) (by kernel_rfl) (by kernel_rfl) (fun _ _ _ h => h) (Or.inl ⟨by rfl, ?_⟩) hHeld ?_
  rotate_left
  · (intro w hSw; (try dsimp only at hSw); go_simp <;> with_reducible rfl)
  try simp only [Act.put, List.setIfInBounds_toArray, List.set_cons_zero, List.set_cons_succ]
  -- 11: t18 := binOp BinOp.neq 3 t12 t17 3 : 4   [if ⟨3, false⟩]
  refine wpB_take (i := 11) (v := ?_) (get_of_drop rfl) (by kernel_rfl) (by kernel_rfl) (by kernel_rfl) (by kernel_rfl) (fun _ _ _ h => h) (Or.inl ⟨by rfl, ?_⟩) hHeld ?_
  rotate_left
  · (intro w hSw; (try dsimp only at hSw); go_simp <;> with_reducible rfl)
  try simp only [Act.put, List.setIfInBounds_toArray, List.set_cons_zero, List.set_cons_succ]
  -- 12: t19 := pick t10 #true t18 : 4
  refine wpB_take (i := 12) (v := ?_) (get_of_drop rfl) (by kernel_rfl) (by kernel_rfl) (by kernel_rfl) (by kernel_rfl) (fun _ _ _ h => h) (Or.inl ⟨by rfl, ?_⟩) hHeld ?_
  rotate_left
  · (intro w hSw; (try dsimp only at hSw); go_simp <;> with_reducible rfl)
  try simp only [Act.put, List.setIfInBounds_toArray, List.set_cons_zero, List.set_cons_succ]
  -- 13: t20 := move t19 : 4
  refine wpB_take (i := 13) (v := ?_) (get_of_drop rfl) (by kernel_rfl) (by kernel_rfl) (by kernel_rfl) (by kernel_rfl) (fun _ _ _ h => h) (Or.inl ⟨by rfl, ?_⟩) hHeld ?_
  rotate_left
  · (intro w hSw; (try dsimp only at hSw); go_simp <;> with_reducible rfl)
  try simp only [Act.put, List.setIfInBounds_toArray, List.set_cons_zero, List.set_cons_succ]
  -- 14: t21 := fieldAddr 41 t3 2 : 0   [if ⟨13, false⟩]
  refine wpB_take (i := 14) (v := ?_) (get_of_drop rfl) (by kernel_rfl) (by kernel_rfl) (by kernel_rfl) (by kernel_rfl) (fun _ _ _ h => h) (Or.inl ⟨by rfl, ?_⟩) hHeld ?_
  rotate_left
  · (intro w hSw; (try dsimp only at hSw); go_simp <;> with_reducible rfl)
  try simp only [Act.put, List.setIfInBounds_toArray, List.set_cons_zero, List.set_cons_succ]
  -- 15: t22 := load 3 t21 : 3   [if ⟨13, false⟩]
  refine wpB_take (i := 15) (v := ?_) (get_of_drop rfl) (by kernel_rfl) (by kernel_rfl) (by kernel_rfl) (by kernel_rfl) (fun _ _ _ h => h) (Or.inl ⟨by rfl, ?_⟩) hHeld ?_
  rotate_left
  · (intro w hSw; (try dsimp only at hSw); go_simp <;> with_reducible rfl)
  try simp only [Act.put, List.setIfInBounds_toArray, List.set_cons_zero, List.set_cons_succ]
  -- 16: t23 := move t0 : 30   [if ⟨13, false⟩]
  refine wpB_take (i := 16) (v := ?_) (get_of_drop rfl) (by kernel_rfl) (by kernel_rfl) (by kernel_rfl) (by kernel_rfl) (fun _ _ _ h => h) (Or.inl ⟨by rfl, ?_⟩) hHeld ?_
  rotate_left
  · (intro w hSw; (try dsimp only at hSw); go_simp <;> with_reducible rfl)
  try simp only [Act.put, List.setIfInBounds_toArray, List.set_cons_zero, List.set_cons_succ]
  -- 17: t24 := nilCheck t23 : 0   [if ⟨13, false⟩]
  refine wpB_take (i := 17) (v := ?_) (get_of_drop rfl) (by kernel_rfl) (by kernel_rfl) (by kernel_rfl) (by kernel_rfl) (fun _ _ _ h => h) (Or.inl ⟨by rfl, ?_⟩) hHeld ?_
  rotate_left
  · (intro w hSw; (try dsimp only at hSw); go_simp <;> with_reducible rfl)
  try simp only [Act.put, List.setIfInBounds_toArray, List.set_cons_zero, List.set_cons_succ]
  -- 18: t25 := fieldAddr 100 t24 0 : 0   [if ⟨13, false⟩]
  refine wpB_take (i := 18) (v := ?_) (get_of_drop rfl) (by kernel_rfl) (by kernel_rfl) (by kernel_rfl) (by kernel_rfl) (fun _ _ _ h => h) (Or.inl ⟨by rfl, ?_⟩) hHeld ?_
  rotate_left
  · (intro w hSw; (try dsimp only at hSw); go_simp <;> with_reducible rfl)
  try simp only [Act.put, List.setIfInBounds_toArray, List.set_cons_zero, List.set_cons_succ]
  -- 19: t26 := fieldAddr 23 t25 1 : 0   [if ⟨13, false⟩]
  refine wpB_take (i := 19) (v := ?_) (get_of_drop rfl) (by kernel_rfl) (by kernel_rfl) (by kernel_rfl) (by kernel_rfl) (fun _ _ _ h => h) (Or.inl ⟨by rfl, ?_⟩) hHeld ?_
  rotate_left
  · (intro w hSw; (try dsimp only at hSw); go_simp <;> with_reducible rfl)
  try simp only [Act.put, List.setIfInBounds_toArray, List.set_cons_zero, List.set_cons_succ]
  -- 20: t27 := load 3 t26 : 3   [if ⟨13, false⟩]
  refine wpB_take (i := 20) (v := ?_) (get_of_drop rfl) (by kernel_rfl) (by kernel_rfl) (by kernel_rfl) (by kernel_rfl) (fun _ _ _ h => h) (Or.inl ⟨by rfl, ?_⟩) hHeld ?_
  rotate_left
  · (intro w hSw; (try dsimp only at hSw); go_simp <;> with_reducible rfl)
  try simp only [Act.put, List.setIfInBounds_toArray, List.set_cons_zero, List.set_cons_succ]
  -- 21: t28 := binOp BinOp.eql 3 t22 t27 3 : 4   [if ⟨13, false⟩]
  refine wpB_take (i := 21) (v := ?_) (get_of_drop rfl) (by kernel_rfl) (by kernel_rfl) (by kernel_rfl) (by kernel_rfl) (fun _ _ _ h => h) (Or.inl ⟨by rfl, ?_⟩) hHeld ?_
  rotate_left
  · (intro w hSw; (try dsimp only at hSw); go_simp <;> with_reducible rfl)
  try simp only [Act.put, List.setIfInBounds_toArray, List.set_cons_zero, List.set_cons_succ]
  -- 22: t29 := pick t20 #true t28 : 4
  refine wpB_take (i := 22) (v := ?_) (get_of_drop rfl) (by kernel_rfl) (by kernel_rfl) (by kernel_rfl) (by kernel_rfl) (fun _ _ _ h => h) (Or.inl ⟨by rfl, ?_⟩) hHeld ?_
  rotate_left
  · (intro w hSw; (try dsimp only at hSw); go_simp <;> with_reducible rfl)
  try simp only [Act.put, List.setIfInBounds_toArray, List.set_cons_zero, List.set_cons_succ]
  -- 23: t30 := move t29 : 4
  refine wpB_take (i := 23) (v := ?_) (get_of_drop rfl) (by kernel_rfl) (by kernel_rfl) (by kernel_rfl) (by kernel_rfl) (fun _ _ _ h => h) (Or.inl ⟨by rfl, ?_⟩) hHeld ?_
  rotate_left
  · (intro w hSw; (try dsimp only at hSw); go_simp <;> with_reducible rfl)
  try simp only [Act.put, List.setIfInBounds_toArray, List.set_cons_zero, List.set_cons_succ]
  -- 24: t31 := fieldAddr 41 t3 2 : 0   [if ⟨23, false⟩]
  refine wpB_take (i := 24) (v := ?_) (get_of_drop rfl) (by kernel_rfl) (by kernel_rfl) (by kernel_rfl) (by kernel_rfl) (fun _ _ _ h => h) (Or.inl ⟨by rfl, ?_⟩) hHeld ?_
  rotate_left
  · (intro w hSw; (try dsimp only at hSw); go_simp <;> with_reducible rfl)
  try simp only [Act.put, List.setIfInBounds_toArray, List.set_cons_zero, List.set_cons_succ]
  -- 25: t32 := load 3 t31 : 3   [if ⟨23, false⟩]
  refine wpB_take (i := 25) (v := ?_) (get_of_drop rfl) (by kernel_rfl) (by kernel_rfl) (by kernel_rfl) (by kernel_rfl) (fun _ _ _ h => h) (Or.inl ⟨by rfl, ?_⟩) hHeld ?_
  rotate_left
  · (intro w hSw; (try dsimp only at hSw); go_simp <;> with_reducible rfl)
  try simp only [Act.put, List.setIfInBounds_toArray, List.set_cons_zero, List.set_cons_succ]
  -- 26: t33 := move t0 : 30   [if ⟨23, false⟩]
  refine wpB_take (i := 26) (v := ?_) (get_of_drop rfl) (by kernel_rfl) (by kernel_rfl) (by kernel_rfl) (by kernel_rfl) (fun _ _ _ h => h) (Or.inl ⟨by rfl, ?_⟩) hHeld ?_
  rotate_left
  · (intro w hSw; (try dsimp only at hSw); go_simp <;> with_reducible rfl)
  try simp only [Act.put, List.setIfInBounds_toArray, List.set_cons_zero, List.set_cons_succ]
  -- 27: t34 := nilCheck t33 : 0   [if ⟨23, false⟩]
  refine wpB_take (i := 27) (v := ?_) (get_of_drop rfl) (by kernel_rfl) (by kernel_rfl) (by kernel_rfl) (by kernel_rfl) (fun _ _ _ h => h) (Or.inl ⟨by rfl, ?_⟩) hHeld ?_
  rotate_left
  · (intro w hSw; (try dsimp only at hSw); go_simp <;> with_reducible rfl)
  try simp only [Act.put, List.setIfInBounds_toArray, List.set_cons_zero, List.set_cons_succ]
  -- 28: t35 := fieldAddr 100 t34 0 : 0   [if ⟨23, false⟩]
  refine wpB_take (i := 28) (v := ?_) (get_of_drop rfl) (by kernel_rfl) (by kernel_rfl) (by kernel_rfl) (by kernel_rfl) (fun _ _ _ h => h) (Or.inl ⟨by rfl, ?_⟩) hHeld ?_
  rotate_left
  · (intro w hSw; (try dsimp only at hSw); go_simp <;> with_reducible rfl)
  try simp only [Act.put, List.setIfInBounds_toArray, List.set_cons_zero, List.set_cons_succ]
  -- 29: t36 := fieldAddr 23 t35 0 : 0   [if ⟨23, false⟩]
  refine wpB_take (i := 29) (v := ?_) (get_of_drop rfl) (by kernel_rfl) (by kernel_rfl) (by kernel_rfl) (by kernel_rfl) (fun _ _ _ h => h) (Or.inl ⟨by rfl, ?_⟩) hHeld ?_
  rotate_left
  · (intro w hSw; (try dsimp only at hSw); go_simp <;> with_reducible rfl)
  try simp only [Act.put, List.setIfInBounds_toArray, List.set_cons_zero, List.set_cons_succ]
  -- 30: t37 := load 3 t36 : 3   [if ⟨23, false⟩]
  refine wpB_take (i := 30) (v := ?_) (get_of_drop rfl) (by kernel_rfl) (by kernel_rfl) (by kernel_rfl) (by kernel_rfl) (fun _ _ _ h => h) (Or.inl ⟨by rfl, ?_⟩) hHeld ?_
  rotate_left
  · (intro w hSw; (try dsimp only at hSw); go_simp <;> with_reducible rfl)
  try simp only [Act.put, List.setIfInBounds_toArray, List.set_cons_zero, List.set_cons_succ]
  -- 31: t38 := binOp BinOp.geq 3 t32 t37 3 : 4   [if ⟨23, false⟩]
  refine wpB_take (i := 31) (v := ?_) (get_of_drop rfl) (by kernel_rfl) (by kernel_rfl) (by kernel_rfl) (by kernel_rfl) (fun _ _ _ h => h) (Or.inl ⟨by rfl, ?_⟩) hHeld ?_
  rotate_left
  · (intro w hSw; (try dsimp only at hSw); go_simp <;> with_reducible rfl)
  try simp only [Act.put, List.setIfInBounds_toArray, List.set_cons_zero, List.set_cons_succ]
  -- 32: t39 := pick t30 #true t38 : 4
  refine wpB_take (i := 32) (v := ?_) (get_of_drop rfl) (by kernel_rfl) (by kernel_rfl) (by kernel_rfl) (by kernel_rfl) (fun _ _ _ h => h) (Or.inl ⟨by rfl, ?_⟩) hHeld ?_
  rotate_left
  · (intro w hSw; (try dsimp only at hSw); go_simp <;> with_reducible rfl)
  try simp only [Act.put, List.setIfInBounds_toArray, List.set_cons_zero, List.set_cons_succ]
  refine wpB_done (by kernel_rfl) ?_ _
  clear hmr hd2 hs2 hn2 X_0 X_1 X_2 X_3 X_4 X_5 X_6 X_7 U_0 U_1
  have K := hid (C1.out.trans hHeld (fun _ h _ => h))
  replace H := hid (HH.out.far K.out)
  replace BX := hid (hHeld.blk BX.out (fun h => h))
  replace HM := hid (HM.out.chg hHeld (fun _ _ h => h))
  replace BP := hid H.out.blk
  clear hHeld HW
  go_wp2_with fail
  have X_1 : ∀ wx, Chg (fun _ => False) wy wx → wx.cell? ⟨b, 1, none⟩ = some (.int .i64 m.view) := fun wx hx => (cellAt (hx.blk BX.out (fun h => h)) 1).trans rfl
  have U_3 : ∀ wx, Chg (fun _ => False) wy wx → wx.cell? ⟨p, 3, none⟩ = some (.int .i64 r.s.view) := fun wx hx => (cellAt (hx.blk BP.out (fun h => h)) 3).trans rfl
  refine wpB_start (fun wx : World => Chg (fun _ => False) wy wx) (by kernel_rfl) ?_
  have hHeld : (fun wx : World => Chg (fun _ => False) wy wx) _ := (Chg.refl (fun _ => False) wy).drew
  -- 0: t40 := fieldAddr 41 t3 1 : 0
  refine wpB_take (i := 0) (v := ?_) (get_of_drop rfl) (by kernel_rfl) (by kernel_rfl) (by kernel_rfl) (by kernel_rfl) (fun _ _ _ h => h) (Or.inl ⟨by rfl, ?_⟩) hHeld ?_
  rotate_left
  · (intro w hSw; (try dsimp only at hSw); go_simp <;> with_reducible rfl)
  try simp only [Act.put, List.setIfInBounds_toArray, List.set_cons_zero, List.set_cons_succ]
  -- 1: t41 := load 3 t40 : 3
  refine wpB_take (i := 1) (v := ?_) (get_of_drop rfl) (by kernel_rfl) (by kernel_rfl) (by kernel_rfl) (by kernel_rfl) (fun _ _ _ h => h) (Or.inl ⟨by rfl, ?_⟩) hHeld ?_
  rotate_left
  · (intro w hSw; (try dsimp only at hSw); go_simp <;> with_reducible rfl)
  try simp only [Act.put, List.setIfInBounds_toArray, List.set_cons_zero, List.set_cons_succ]
  -- 2: t42 := move t0 : 30
  refine wpB_take (i := 2) (v := ?_) (get_of_drop rfl) (by kernel_rfl) (by kernel_rfl) (by kernel_rfl) (by kernel_rfl) (fun _ _ _ h => h) (Or.inl ⟨by rfl, ?_⟩) hHeld ?_
  rotate_left
  · (intro w hSw; (try dsimp only at hSw); go_simp <;> with_reducible rfl)
  try simp only [Act.put, List.setIfInBounds_toArray, List.set_cons_zero, List.set_cons_succ]
  -- 3: t43 := nilCheck t42 : 0
  refine wpB_take (i := 3) (v := ?_) (get_of_drop rfl) (by kernel_rfl) (by kernel_rfl) (by kernel_rfl) (by kernel_rfl) (fun _ _ _ h => h) (Or.inl ⟨by rfl, ?_⟩) hHeld ?_
  rotate_left
  · (intro w hSw; (try dsimp only at hSw); go_simp <;> with_reducible rfl)
  try simp only [Act.put, List.setIfInBounds_toArray, List.set_cons_zero, List.set_cons_succ]
  -- 4: t44 := fieldAddr 100 t43 1 : 0
  refine wpB_take (i := 4) (v := ?_) (get_of_drop rfl) (by kernel_rfl) (by kernel_rfl) (by kernel_rfl) (by kernel_rfl) (fun _ _ _ h => h) (Or.inl ⟨by rfl, ?_⟩) hHeld ?_
  rotate_left
  · (intro w hSw; (try dsimp only at hSw); go_simp <;> with_reducible rfl)
  try simp only [Act.put, List.setIfInBounds_toArray, List.set_cons_zero, List.set_cons_succ]
  -- 5: t45 := fieldAddr 26 t44 0 : 0
  refine wpB_take (i := 5) (v := ?_) (get_of_drop rfl) (by kernel_rfl) (by kernel_rfl) (by kernel_rfl) (by kernel_rfl) (fun _ _ _ h => h) (Or.inl ⟨by rfl, ?_⟩) hHeld ?_
  rotate_left
  · (intro w hSw; (try dsimp only at hSw); go_simp <;> with_reducible rfl)
  try simp only [Act.put, List.setIfInBounds_toArray, List.set_cons_zero, List.set_cons_succ]
  -- 6: t46 := load 3 t45 : 3
  refine wpB_take (i := 6) (v := ?_) (get_of_drop rfl) (by kernel_rfl) (by kernel_rfl) (by kernel_rfl) (by kernel_rfl) (fun _ _ _ h => h) (Or.inl ⟨by rfl, ?_⟩) hHeld ?_
  rotate_left
  · (intro w hSw; (try dsimp only at hSw); go_simp <;> with_reducible rfl)
  try simp only [Act.put, List.setIfInBounds_toArray, List.set_cons_zero, List.set_cons_succ]
  -- 7: t47 := binOp BinOp.lss 3 t41 t46 3 : 4
  refine wpB_take (i := 7) (v := ?_) (get_of_drop rfl) (by kernel_rfl) (by kernel_rfl) (by kernel_rfl) (by kernel_rfl) (fun _ _ _ h => h) (Or.inl ⟨by rfl, ?_⟩) hHeld ?_
  rotate_left
  · (intro w hSw; (try dsimp only at hSw); go_simp <;> with_reducible rfl)
  try simp only [Act.put, List.setIfInBounds_toArray, List.set_cons_zero, List.set_cons_succ]
  refine wpB_done (by kernel_rfl) ?_ _
  obtain ⟨wb, hdn⟩ : ∃ q_, q_ = wy.drew := ⟨_, rfl⟩
  rw [← hdn]
  replace K := hid (show Chg (fun _ => False) w wb by rw [hdn]; exact K.out.drew)
  replace H := hid (show Rep w wb p b1 b2 b3 X r A n c (.slice none 0 0) by rw [hdn]; exact H.out.far ((Chg.refl (fun _ => False) wy).drew))
  replace BX := hid (show wb.heap[b]? = some (.cells #[.int .i64 m.kind, .int .i64 m.view, .int .i64 m.src, .int .i64 m.dst, .int .i64 m.op, .int .i64 m.commit, .int .i64 m.normal, .slice B k d] 41 (0, 0)) by rw [hdn]; exact blk_drew BX.out)
  replace HM := hid (show Ty.At entryK wb (fun j => R j ∧ j < w.heap.size) B k d m.log by rw [hdn]; exact HM.out.chg ((Chg.refl (fun _ => False) wy).drew) (fun _ _ h => h))
  replace BP := hid H.out.blk
  clear hdn hHeld
  clear X_1 U_3
  by_cases hv1 : m.view < r.s.view
  case pos =>
    have HV1 := hid hv1
    go_wp2_with fail
    go_ret2
    have e1 : deliverR r m = (r, 0) := by unfold deliverR; rw [if_neg HYES.out, if_pos HV1.out]
    rw [e1]
    exact Stood.none_ HH.out HO.out K.out rfl
  have HVL := hid (show r.s.view ≤ m.view by omega)
  have HDL := hid (show deliverR r m = (heardR r m, 0) by unfold deliverR; rw [if_neg HYES.out, if_neg hv1])
  go_wp2_with fail
  clear hv1
  have X_1 : ∀ wx, Chg (fun _ => False) wb wx → wx.cell? ⟨b, 1, none⟩ = some (.int .i64 m.view) := fun wx hx => (cellAt (hx.blk BX.out (fun h => h)) 1).trans rfl
  have U_3 : ∀ wx, Chg (fun _ => False) wb wx → wx.cell? ⟨p, 3, none⟩ = some (.int .i64 r.s.view) := fun wx hx => (cellAt (hx.blk BP.out (fun h => h)) 3).trans rfl
  have HNWF := hid (show newerR r m = (decide (r.s.view < m.view) || r.ch) from rfl)
  go_upto_region 5 with fail
  go_cut [6] (fun v6 wx => v6 = .bool (newerR r m) ∧ wx = wb.drew)
  case first =>
    by_cases hv2 : r.s.view < m.view
    · have hv3 : newerR r m = true := by rw [HNWF.out, decide_eq_true hv2]; rfl
      refine wpB_start (fun wx : World => Chg (fun _ => False) wb wx) (by kernel_rfl) ?_
      have hHeld : (fun wx : World => Chg (fun _ => False) wb wx) _ := (Chg.refl (fun _ => False) wb).drew
      -- 0: t48 := fieldAddr 41 t3 1 : 0
      refine wpB_take (i := 0) (v := ?_) (get_of_drop rfl) (by kernel_rfl) (by kernel_rfl) (by kernel_rfl) (by kernel_rfl) (fun _ _ _ h => h) (Or.inl ⟨by rfl, ?_⟩) hHeld ?_
      rotate_left
      · (intro w hSw; (try dsimp only at hSw); go_simp <;> with_reducible rfl)
      try simp only [Act.put, List.setIfInBounds_toArray, List.set_cons_zero, List.set_cons_succ]
      -- 1: t49 := load 3 t48 : 3
      refine wpB_take (i := 1) (v := ?_) (get_of_drop rfl) (by kernel_rfl) (by kernel_rfl) (by kernel_rfl) (by kernel_rfl) (fun _ _ _ h => h) (Or.inl ⟨by rfl, ?_⟩) hHeld ?_
      rotate_left
      · (intro w hSw; (try dsimp only at hSw); go_simp <;> with_reducible rfl)
      try simp only [Act.put, List.setIfInBounds_toArray, List.set_cons_zero, List.set_cons_succ]
      -- 2: t50 := move t0 : 30
      refine wpB_take (i := 2) (v := ?_) (get_of_drop rfl) (by kernel_rfl) (by kernel_rfl) (by kernel_rfl) (by kernel_rfl) (fun _ _ _ h => h) (Or.inl ⟨by rfl, ?_⟩) hHeld ?_
      rotate_left
      · (intro w hSw; (try dsimp only at hSw); go_simp <;> with_reducible rfl)
      try simp only [Act.put, List.setIfInBounds_toArray, List.set_cons_zero, List.set_cons_succ]
      -- 3: t51 := nilCheck t50 : 0
      refine wpB_take (i := 3) (v := ?_) (get_of_drop rfl) (by kernel_rfl) (by kernel_rfl) (by kernel_rfl) (by kernel_rfl) (fun _ _ _ h => h) (Or.inl ⟨by rfl, ?_⟩) hHeld ?_
      rotate_left
      · (intro w hSw; (try dsimp only at hSw); go_simp <;> with_reducible rfl)
      try simp only [Act.put, List.setIfInBounds_toArray, List.set_cons_zero, List.set_cons_succ]
      -- 4: t52 := fieldAddr 100 t51 1 : 0
      refine wpB_take (i := 4) (v := ?_) (get_of_drop rfl) (by kernel_rfl) (by kernel_rfl) (by kernel_rfl) (by kernel_rfl) (fun _ _ _ h => h) (Or.inl ⟨by rfl, ?_⟩) hHeld ?_
      rotate_left
      · (intro w hSw; (try dsimp only at hSw); go_simp <;> with_reducible rfl)
      try simp only [Act.put, List.setIfInBounds_toArray, List.set_cons_zero, List.set_cons_succ]
      -- 5: t53 := fieldAddr 26 t52 0 : 0
      refine wpB_take (i := 5) (v := ?_) (get_of_drop rfl) (by kernel_rfl) (by kernel_rfl) (by kernel_rfl) (by kernel_rfl) (fun _ _ _ h => h) (Or.inl ⟨by rfl, ?_⟩) hHeld ?_
      rotate_left
      · (intro w hSw; (try dsimp only at hSw); go_simp <;> with_reducible rfl)
      try simp only [Act.put, List.setIfInBounds_toArray, List.set_cons_zero, List.set_cons_succ]
      -- 6: t54 := load 3 t53 : 3
      refine wpB_take (i := 6) (v := ?_) (get_of_drop rfl) (by kernel_rfl) (by kernel_rfl) (by kernel_rfl) (by kernel_rfl) (fun _ _ _ h => h) (Or.inl ⟨by rfl, ?_⟩) hHeld ?_
      rotate_left
      · (intro w hSw; (try dsimp only at hSw); go_simp <;> with_reducible rfl)
      try simp only [Act.put, List.setIfInBounds_toArray, List.set_cons_zero, List.set_cons_succ]
      -- 7: t55 := binOp BinOp.gtr 3 t49 t54 3 : 4
      refine wpB_take (i := 7) (v := ?_) (get_of_drop rfl) (by kernel_rfl) (by kernel_rfl) (by kernel_rfl) (by kernel_rfl) (fun _ _ _ h => h) (Or.inl ⟨by rfl, ?_⟩) hHeld ?_
      rotate_left
      · (intro w hSw; (try dsimp only at hSw); go_simp <;> with_reducible rfl)
      try simp only [Act.put, List.setIfInBounds_toArray, List.set_cons_zero, List.set_cons_succ]
      -- 8: t56 := move t55 : 4
      refine wpB_take (i := 8) (v := ?_) (get_of_drop rfl) (by kernel_rfl) (by kernel_rfl) (by kernel_rfl) (by kernel_rfl) (fun _ _ _ h => h) (Or.inl ⟨by rfl, ?_⟩) hHeld ?_
      rotate_left
      · (intro w hSw; (try dsimp only at hSw); go_simp <;> with_reducible rfl)
      try simp only [Act.put, List.setIfInBounds_toArray, List.set_cons_zero, List.set_cons_succ]
      -- 9: t57 := move t0 : 30   [if ⟨8, false⟩]
      refine wpB_take (i := 9) (v := undef) (get_of_drop rfl) (by kernel_rfl) (by kernel_rfl) (by kernel_rfl) (by kernel_rfl) (fun _ _ _ h => h) (Or.inr ⟨by rfl, rfl⟩) hHeld ?_
      try simp only [Act.put, List.setIfInBounds_toArray, List.set_cons_zero, List.set_cons_succ]
      -- 10: t58 := nilCheck t57 : 0   [if ⟨8, false⟩]
      refine wpB_take (i := 10) (v := undef) (get_of_drop rfl) (by kernel_rfl) (by kernel_rfl) (by kernel_rfl) (by kernel_rfl) (fun _ _ _ h => h) (Or.inr ⟨by rfl, rfl⟩) hHeld ?_
      try simp only [Act.put, List.setIfInBounds_toArray, List.set_cons_zero, List.set_cons_succ]
      -- 11: t59 := fieldAddr 100 t58 2 : 0   [if ⟨8, false⟩]
      refine wpB_take (i := 11) (v := undef) (get_of_drop rfl) (by kernel_rfl) (by kernel_rfl) (by kernel_rfl) (by kernel_rfl) (fun _ _ _ h => h) (Or.inr ⟨by rfl, rfl⟩) hHeld ?_
      try simp only [Act.put, List.setIfInBounds_toArray, List.set_cons_zero, List.set_cons_succ]
      -- 12: t60 := load 4 t59 : 4   [if ⟨8, false⟩]
      refine wpB_take (i := 12) (v := undef) (get_of_drop rfl) (by kernel_rfl) (by kernel_rfl) (by kernel_rfl) (by kernel_rfl) (fun _ _ _ h => h) (Or.inr ⟨by rfl, rfl⟩) hHeld ?_
      try simp only [Act.put, List.setIfInBounds_toArray, List.set_cons_zero, List.set_cons_succ]
      -- 13: t61 := pick t56 #true t60 : 4
      refine wpB_take (i := 13) (v := ?_) (get_of_drop rfl) (by kernel_rfl) (by kernel_rfl) (by kernel_rfl) (by kernel_rfl) (fun _ _ _ h => h) (Or.inl ⟨by rfl, ?_⟩) hHeld ?_
      rotate_left
      · (intro w hSw; (try dsimp only at hSw); go_simp <;> with_reducible rfl)
      try simp only [Act.put, List.setIfInBounds_toArray, List.set_cons_zero, List.set_cons_succ]
      -- 14: t6 := assign t61 : 4
      refine wpB_take (i := 14) (v := ?_) (get_of_drop rfl) (by kernel_rfl) (by kernel_rfl) (by kernel_rfl) (by kernel_rfl) (fun _ _ _ h => h) (Or.inl ⟨by rfl, ?_⟩) hHeld ?_
      rotate_left
      · (intro w hSw; (try dsimp only at hSw); go_simp <;> with_reducible rfl)
      try simp only [Act.put, List.setIfInBounds_toArray, List.set_cons_zero, List.set_cons_succ]
      refine wpB_done (by kernel_rfl) ?_ _
      go_wp2_with fail
      go_meet
      exact ⟨by rw [hv3], rfl⟩
    · have hv3 : newerR r m = r.ch := by rw [HNWF.out, decide_eq_false hv2]; rfl
      have U_8 : ∀ wx, Chg (fun _ => False) wb wx → wx.cell? ⟨p, 8, none⟩ = some (.bool r.ch) := fun wx hx => (cellAt (hx.blk BP.out (fun h => h)) 8).trans rfl
      refine wpB_start (fun wx : World => Chg (fun _ => False) wb wx) (by kernel_rfl) ?_
      have hHeld : (fun wx : World => Chg (fun _ => False) wb wx) _ := (Chg.refl (fun _ => False) wb).drew
      -- 0: t48 := fieldAddr 41 t3 1 : 0
      refine wpB_take (i := 0) (v := ?_) (get_of_drop rfl) (by kernel_rfl) (by kernel_rfl) (by kernel_rfl) (by kernel_rfl) (fun _ _ _ h => h) (Or.inl ⟨by rfl, ?_⟩) hHeld ?_
      rotate_left
      · (intro w hSw; (try dsimp only at hSw); go_simp <;> with_reducible rfl)
      try simp only [Act.put, List.setIfInBounds_toArray, List.set_cons_zero, List.set_cons_succ]
      -- 1: t49 := load 3 t48 : 3
      refine wpB_take (i := 1) (v := ?_) (get_of_drop rfl) (by kernel_rfl) (by kernel_rfl) (by kernel_rfl) (by kernel_rfl) (fun _ _ _ h => h) (Or.inl ⟨by rfl, ?_⟩) hHeld ?_
      rotate_left
      · (intro w hSw; (try dsimp only at hSw); go_simp <;> with_reducible rfl)
      try simp only [Act.put, List.setIfInBounds_toArray, List.set_cons_zero, List.set_cons_succ]
      -- 2: t50 := move t0 : 30
      refine wpB_take (i := 2) (v := ?_) (get_of_drop rfl) (by kernel_rfl) (by kernel_rfl) (by kernel_rfl) (by kernel_rfl) (fun _ _ _ h => h) (Or.inl ⟨by rfl, ?_⟩) hHeld ?_
      rotate_left
      · (intro w hSw; (try dsimp only at hSw); go_simp <;> with_reducible rfl)
      try simp only [Act.put, List.setIfInBounds_toArray, List.set_cons_zero, List.set_cons_succ]
      -- 3: t51 := nilCheck t50 : 0
      refine wpB_take (i := 3) (v := ?_) (get_of_drop rfl) (by kernel_rfl) (by kernel_rfl) (by kernel_rfl) (by kernel_rfl) (fun _ _ _ h => h) (Or.inl ⟨by rfl, ?_⟩) hHeld ?_
      rotate_left
      · (intro w hSw; (try dsimp only at hSw); go_simp <;> with_reducible rfl)
      try simp only [Act.put, List.setIfInBounds_toArray, List.set_cons_zero, List.set_cons_succ]
      -- 4: t52 := fieldAddr 100 t51 1 : 0
      refine wpB_take (i := 4) (v := ?_) (get_of_drop rfl) (by kernel_rfl) (by kernel_rfl) (by kernel_rfl) (by kernel_rfl) (fun _ _ _ h => h) (Or.inl ⟨by rfl, ?_⟩) hHeld ?_
      rotate_left
      · (intro w hSw; (try dsimp only at hSw); go_simp <;> with_reducible rfl)
      try simp only [Act.put, List.setIfInBounds_toArray, List.set_cons_zero, List.set_cons_succ]
      -- 5: t53 := fieldAddr 26 t52 0 : 0
      refine wpB_take (i := 5) (v := ?_) (get_of_drop rfl) (by kernel_rfl) (by kernel_rfl) (by kernel_rfl) (by kernel_rfl) (fun _ _ _ h => h) (Or.inl ⟨by rfl, ?_⟩) hHeld ?_
      rotate_left
      · (intro w hSw; (try dsimp only at hSw); go_simp <;> with_reducible rfl)
      try simp only [Act.put, List.setIfInBounds_toArray, List.set_cons_zero, List.set_cons_succ]
      -- 6: t54 := load 3 t53 : 3
      refine wpB_take (i := 6) (v := ?_) (get_of_drop rfl) (by kernel_rfl) (by kernel_rfl) (by kernel_rfl) (by kernel_rfl) (fun _ _ _ h => h) (Or.inl ⟨by rfl, ?_⟩) hHeld ?_
      rotate_left
      · (intro w hSw; (try dsimp only at hSw); go_simp <;> with_reducible rfl)
      try simp only [Act.put, List.setIfInBounds_toArray, List.set_cons_zero, List.set_cons_succ]
      -- 7: t55 := binOp BinOp.gtr 3 t49 t54 3 : 4
      refine wpB_take (i := 7) (v := ?_) (get_of_drop rfl) (by kernel_rfl) (by kernel_rfl) (by kernel_rfl) (by kernel_rfl) (fun _ _ _ h => h) (Or.inl ⟨by rfl, ?_⟩) hHeld ?_
      rotate_left
      · (intro w hSw; (try dsimp only at hSw); go_simp <;> with_reducible rfl)
      try simp only [Act.put, List.setIfInBounds_toArray, List.set_cons_zero, List.set_cons_succ]
      -- 8: t56 := move t55 : 4
      refine wpB_take (i := 8) (v := ?_) (get_of_drop rfl) (by kernel_rfl) (by kernel_rfl) (by kernel_rfl) (by kernel_rfl) (fun _ _ _ h => h) (Or.inl ⟨by rfl, ?_⟩) hHeld ?_
      rotate_left
      · (intro w hSw; (try dsimp only at hSw); go_simp <;> with_reducible rfl)
      try simp only [Act.put, List.setIfInBounds_toArray, List.set_cons_zero, List.set_cons_succ]
      -- 9: t57 := move t0 : 30   [if ⟨8, false⟩]
      refine wpB_take (i := 9) (v := ?_) (get_of_drop rfl) (by kernel_rfl) (by kernel_rfl) (by kernel_rfl) (by kernel_rfl) (fun _ _ _ h => h) (Or.inl ⟨by rfl, ?_⟩) hHeld ?_
      rotate_left
      · (intro w hSw; (try dsimp only at hSw); go_simp <;> with_reducible rfl)
      try simp only [Act.put, List.setIfInBounds_toArray, List.set_cons_zero, List.set_cons_succ]
      -- 10: t58 := nilCheck t57 : 0   [if ⟨8, false⟩]
      refine wpB_take (i := 10) (v := ?_) (get_of_drop rfl) (by kernel_rfl) (by kernel_rfl) (by kernel_rfl) (by kernel_rfl) (fun _ _ _ h => h) (Or.inl ⟨by rfl, ?_⟩) hHeld ?_
      rotate_left
      · (intro w hSw; (try dsimp only at hSw); go_simp <;> with_reducible rfl)
      try simp only [Act.put, List.setIfInBounds_toArray, List.set_cons_zero, List.set_cons_succ]
      -- 11: t59 := fieldAddr 100 t58 2 : 0   [if ⟨8, false⟩]
      refine wpB_take (i := 11) (v := ?_) (get_of_drop rfl) (by kernel_rfl) (by kernel_rfl) (by kernel_rfl) (by kernel_rfl) (fun _ _ _ h => h) (Or.inl ⟨by rfl, ?_⟩) hHeld ?_
      rotate_left
      · (intro w hSw; (try dsimp only at hSw); go_simp <;> with_reducible rfl)
      try simp only [Act.put, List.setIfInBounds_toArray, List.set_cons_zero, List.set_cons_succ]
      -- 12: t60 := load 4 t59 : 4   [if ⟨8, false⟩]
      refine wpB_take (i := 12) (v := ?_) (get_of_drop rfl) (by kernel_rfl) (by kernel_rfl) (by kernel_rfl) (by kernel_rfl) (fun _ _ _ h => h) (Or.inl ⟨by rfl, ?_⟩) hHeld ?_
      rotate_left
      · (intro w hSw; (try dsimp only at hSw); go_simp <;> with_reducible rfl)
      try simp only [Act.put, List.setIfInBounds_toArray, List.set_cons_zero, List.set_cons_succ]
      -- 13: t61 := pick t56 #true t60 : 4
      refine wpB_take (i := 13) (v := ?_) (get_of_drop rfl) (by kernel_rfl) (by kernel_rfl) (by kernel_rfl) (by kernel_rfl) (fun _ _ _ h => h) (Or.inl ⟨by rfl, ?_⟩) hHeld ?_
      rotate_left
      · (intro w hSw; (try dsimp only at hSw); go_simp <;> with_reducible rfl)
      try simp only [Act.put, List.setIfInBounds_toArray, List.set_cons_zero, List.set_cons_succ]
      -- 14: t6 := assign t61 : 4
      refine wpB_take (i := 14) (v := ?_) (get_of_drop rfl) (by kernel_rfl) (by kernel_rfl) (by kernel_rfl) (by kernel_rfl) (fun _ _ _ h => h) (Or.inl ⟨by rfl, ?_⟩) hHeld ?_
      rotate_left
      · (intro w hSw; (try dsimp only at hSw); go_simp <;> with_reducible rfl)
      try simp only [Act.put, List.setIfInBounds_toArray, List.set_cons_zero, List.set_cons_succ]
      refine wpB_done (by kernel_rfl) ?_ _
      go_wp2_with fail
      go_meet
      exact ⟨by rw [hv3], rfl⟩
  case rest =>
    obtain ⟨hv6, hw6⟩ := hcut
    subst hv6
    obtain ⟨wn, hdn⟩ : ∃ q_, q_ = wb.drew := ⟨_, rfl⟩
    rw [← hdn] at hw6
    obtain rfl := hw6.symm
    replace K := hid (show Chg (fun _ => False) w wn by rw [hdn]; exact K.out.drew)
    replace H := hid (show Rep w wn p b1 b2 b3 X r A n c (.slice none 0 0) by rw [hdn]; exact H.out.far ((Chg.refl (fun _ => False) wb).drew))
    replace BX := hid (show wn.heap[b]? = some (.cells #[.int .i64 m.kind, .int .i64 m.view, .int .i64 m.src, .int .i64 m.dst, .int .i64 m.op, .int .i64 m.commit, .int .i64 m.normal, .slice B k d] 41 (0, 0)) by rw [hdn]; exact blk_drew BX.out)
    replace HM := hid (show Ty.At entryK wn (fun j => R j ∧ j < w.heap.size) B k d m.log by rw [hdn]; exact HM.out.chg ((Chg.refl (fun _ => False) wb).drew) (fun _ _ h => h))
    replace BP := hid H.out.blk
    clear hdn X_1 U_3
    rcases (show m.kind = 1 ∨ m.kind = 2 ∨ m.kind = 3 ∨ m.kind = 4 ∨ m.kind = 5 ∨ m.kind = 6 ∨ m.kind = 7 ∨ m.kind = 8 by have := (msgR_num HMR.out).1; omega) with hk | hk | hk | hk | hk | hk | hk | hk
    · have HKD := hid hk
      clear hk
      have X_K : wn.cell? ⟨b, 0, none⟩ = some (.int .i64 1) := by rw [← HKD.out]; exact (cellAt BX.out 0).trans rfl
      have X_1 : wn.cell? ⟨b, 1, none⟩ = some (.int .i64 m.view) := (cellAt BX.out 1).trans rfl
      have X_2 : wn.cell? ⟨b, 2, none⟩ = some (.int .i64 m.src) := (cellAt BX.out 2).trans rfl
      have X_3 : wn.cell? ⟨b, 3, none⟩ = some (.int .i64 m.dst) := (cellAt BX.out 3).trans rfl
      have X_4 : wn.cell? ⟨b, 4, none⟩ = some (.int .i64 m.op) := (cellAt BX.out 4).trans rfl
      have X_5 : wn.cell? ⟨b, 5, none⟩ = some (.int .i64 m.commit) := (cellAt BX.out 5).trans rfl
      have X_6 : wn.cell? ⟨b, 6, none⟩ = some (.int .i64 m.normal) := (cellAt BX.out 6).trans rfl
      have X_7 : wn.cell? ⟨b, 7, none⟩ = some (.slice B k d) := (cellAt BX.out 7).trans rfl
      have hkd := HKD.out
      go_wp2_with fail
      clear X_K X_1 X_2 X_3 X_4 X_5 X_6 X_7
      rw [← hkd]
      clear hkd
      refine (follow_any H.out HM.out (fun j hj _ e => by rcases e with e | e; exact HR.out j hj.1 hj.2 e; simp [Value.ownBlock] at e) HOK.out HMR.out HS.out (by rw [HO.out]; decide) HVL.out).mono ?_
      rintro e' we ⟨A', n', c', O', rfl, he, hoe, ke⟩
      have H2 := hid he
      have K2 := hid ke
      clear he hoe ke
      go_wp2_with fail
      refine (sent_any H2.out).mono ?_
      rintro e' w9 ⟨rfl, h9, hv9, k9⟩
      have H9 := hid h9
      have HV9 := hid hv9
      have K9 := hid k9
      clear h9 hv9 k9
      go_wp2_with fail
      go_ret2
      have e1 : deliverR r m = (followR r m, 0) := by rw [HDL.out]; unfold heardR; rw [if_pos (.inl HKD.out)]
      rw [e1]
      refine ⟨_, rfl, ⟨_, _, _, H9.out⟩, HV9.out, no_own ?_⟩
      exact ((K.out.mono (S' := fun j => M4 p b1 b2 b3 j ∨ (Value.slice none 0 0).ownBlock = some j) (fun _ h _ => h.elim)).trans K2.out (fun j hj _ => hj)).trans K9.out (fun j hj _ => .inl (.inl hj))
    · have HKD := hid hk
      clear hk
      have X_K : wn.cell? ⟨b, 0, none⟩ = some (.int .i64 2) := by rw [← HKD.out]; exact (cellAt BX.out 0).trans rfl
      have X_1 : wn.cell? ⟨b, 1, none⟩ = some (.int .i64 m.view) := (cellAt BX.out 1).trans rfl
      have X_2 : wn.cell? ⟨b, 2, none⟩ = some (.int .i64 m.src) := (cellAt BX.out 2).trans rfl
      have X_3 : wn.cell? ⟨b, 3, none⟩ = some (.int .i64 m.dst) := (cellAt BX.out 3).trans rfl
      have X_4 : wn.cell? ⟨b, 4, none⟩ = some (.int .i64 m.op) := (cellAt BX.out 4).trans rfl
      have X_5 : wn.cell? ⟨b, 5, none⟩ = some (.int .i64 m.commit) := (cellAt BX.out 5).trans rfl
      have X_6 : wn.cell? ⟨b, 6, none⟩ = some (.int .i64 m.normal) := (cellAt BX.out 6).trans rfl
      have X_7 : wn.cell? ⟨b, 7, none⟩ = some (.slice B k d) := (cellAt BX.out 7).trans rfl
      have hkd := HKD.out
      go_wp2_with fail
      clear X_K X_1 X_2 X_3 X_4 X_5 X_6 X_7
      rw [← hkd]
      clear hkd
      refine (ack_any H.out HOK.out HMR.out (by have := HOK.out.lens; omega)).mono ?_
      rintro e' we ⟨rfl, he, ke⟩
      have H2 := hid he
      have K2 := hid (show Chg (fun j => M4 p b1 b2 b3 j ∨ (Value.slice none 0 0).ownBlock = some j) wn we from ke.mono (fun _ h _ => .inl h))
      clear he ke
      go_wp2_with fail
      refine (sent_any H2.out).mono ?_
      rintro e' w9 ⟨rfl, h9, hv9, k9⟩
      have H9 := hid h9
      have HV9 := hid hv9
      have K9 := hid k9
      clear h9 hv9 k9
      go_wp2_with fail
      go_ret2
      have e1 : deliverR r m = (ackR r m, 0) := by rw [HDL.out]; unfold heardR; rw [if_neg (fun h => by rcases h with h | h <;> exact absurd (HKD.out.symm.trans h) (by decide))]; rw [if_pos HKD.out]
      rw [e1]
      refine ⟨_, rfl, ⟨_, _, _, H9.out⟩, HV9.out, no_own ?_⟩
      exact ((K.out.mono (S' := fun j => M4 p b1 b2 b3 j ∨ (Value.slice none 0 0).ownBlock = some j) (fun _ h _ => h.elim)).trans K2.out (fun j hj _ => hj)).trans K9.out (fun j hj _ => .inl (.inl hj))
    · have HKD := hid hk
      clear hk
      have X_K : wn.cell? ⟨b, 0, none⟩ = some (.int .i64 3) := by rw [← HKD.out]; exact (cellAt BX.out 0).trans rfl
      have X_1 : wn.cell? ⟨b, 1, none⟩ = some (.int .i64 m.view) := (cellAt BX.out 1).trans rfl
      have X_2 : wn.cell? ⟨b, 2, none⟩ = some (.int .i64 m.src) := (cellAt BX.out 2).trans rfl
      have X_3 : wn.cell? ⟨b, 3, none⟩ = some (.int .i64 m.dst) := (cellAt BX.out 3).trans rfl
      have X_4 : wn.cell? ⟨b, 4, none⟩ = some (.int .i64 m.op) := (cellAt BX.out 4).trans rfl
      have X_5 : wn.cell? ⟨b, 5, none⟩ = some (.int .i64 m.commit) := (cellAt BX.out 5).trans rfl
      have X_6 : wn.cell? ⟨b, 6, none⟩ = some (.int .i64 m.normal) := (cellAt BX.out 6).trans rfl
      have X_7 : wn.cell? ⟨b, 7, none⟩ = some (.slice B k d) := (cellAt BX.out 7).trans rfl
      have hkd := HKD.out
      go_wp2_with fail
      clear X_K X_1 X_2 X_3 X_4 X_5 X_6 X_7
      rw [← hkd]
      clear hkd
      refine (follow_any H.out HM.out (fun j hj _ e => by rcases e with e | e; exact HR.out j hj.1 hj.2 e; simp [Value.ownBlock] at e) HOK.out HMR.out HS.out (by rw [HO.out]; decide) HVL.out).mono ?_
      rintro e' we ⟨A', n', c', O', rfl, he, hoe, ke⟩
      have H2 := hid he
      have K2 := hid ke
      clear he hoe ke
      go_wp2_with fail
      refine (sent_any H2.out).mono ?_
      rintro e' w9 ⟨rfl, h9, hv9, k9⟩
      have H9 := hid h9
      have HV9 := hid hv9
      have K9 := hid k9
      clear h9 hv9 k9
      go_wp2_with fail
      go_ret2
      have e1 : deliverR r m = (followR r m, 0) := by rw [HDL.out]; unfold heardR; rw [if_pos (.inr HKD.out)]
      rw [e1]
      refine ⟨_, rfl, ⟨_, _, _, H9.out⟩, HV9.out, no_own ?_⟩
      exact ((K.out.mono (S' := fun j => M4 p b1 b2 b3 j ∨ (Value.slice none 0 0).ownBlock = some j) (fun _ h _ => h.elim)).trans K2.out (fun j hj _ => hj)).trans K9.out (fun j hj _ => .inl (.inl hj))
    · have HKD := hid hk
      clear hk
      have X_K : wn.cell? ⟨b, 0, none⟩ = some (.int .i64 4) := by rw [← HKD.out]; exact (cellAt BX.out 0).trans rfl
      have X_1 : wn.cell? ⟨b, 1, none⟩ = some (.int .i64 m.view) := (cellAt BX.out 1).trans rfl
      have X_2 : wn.cell? ⟨b, 2, none⟩ = some (.int .i64 m.src) := (cellAt BX.out 2).trans rfl
      have X_3 : wn.cell? ⟨b, 3, none⟩ = some (.int .i64 m.dst) := (cellAt BX.out 3).trans rfl
      have X_4 : wn.cell? ⟨b, 4, none⟩ = some (.int .i64 m.op) := (cellAt BX.out 4).trans rfl
      have X_5 : wn.cell? ⟨b, 5, none⟩ = some (.int .i64 m.commit) := (cellAt BX.out 5).trans rfl
      have X_6 : wn.cell? ⟨b, 6, none⟩ = some (.int .i64 m.normal) := (cellAt BX.out 6).trans rfl
      have X_7 : wn.cell? ⟨b, 7, none⟩ = some (.slice B k d) := (cellAt BX.out 7).trans rfl
      have hkd := HKD.out
      go_wp2_with fail
      clear X_K X_1 X_2 X_3 X_4 X_5 X_6 X_7
      rw [← hkd]
      clear hkd
      refine (turn4_any H.out HM.out (fun j hj _ e => by rcases e with e | e; exact HR.out j hj.1 hj.2 e; simp [Value.ownBlock] at e) HOK.out HMR.out HS.out (by rw [HO.out]; decide) HKD.out).mono ?_
      rintro e' we ⟨A', n', c', O', rfl, he, hoe, ke⟩
      have H2 := hid he
      have K2 := hid ke
      clear he hoe ke
      go_wp2_with fail
      refine (sent_any H2.out).mono ?_
      rintro e' w9 ⟨rfl, h9, hv9, k9⟩
      have H9 := hid h9
      have HV9 := hid hv9
      have K9 := hid k9
      clear h9 hv9 k9
      go_wp2_with fail
      go_ret2
      have e1 : deliverR r m = (turnR r m, 0) := by rw [HDL.out]; unfold heardR; rw [if_neg (fun h => by rcases h with h | h <;> exact absurd (HKD.out.symm.trans h) (by decide))]; rw [if_neg (fun h => absurd (HKD.out.symm.trans h) (by decide))]; rw [if_pos (.inl HKD.out)]
      rw [e1]
      refine ⟨_, rfl, ⟨_, _, _, H9.out⟩, HV9.out, no_own ?_⟩
      exact ((K.out.mono (S' := fun j => M4 p b1 b2 b3 j ∨ (Value.slice none 0 0).ownBlock = some j) (fun _ h _ => h.elim)).trans K2.out (fun j hj _ => hj)).trans K9.out (fun j hj _ => .inl (.inl hj))
    · have HKD := hid hk
      clear hk
      have X_K : wn.cell? ⟨b, 0, none⟩ = some (.int .i64 5) := by rw [← HKD.out]; exact (cellAt BX.out 0).trans rfl
      have X_1 : wn.cell? ⟨b, 1, none⟩ = some (.int .i64 m.view) := (cellAt BX.out 1).trans rfl
      have X_2 : wn.cell? ⟨b, 2, none⟩ = some (.int .i64 m.src) := (cellAt BX.out 2).trans rfl
      have X_3 : wn.cell? ⟨b, 3, none⟩ = some (.int .i64 m.dst) := (cellAt BX.out 3).trans rfl
      have X_4 : wn.cell? ⟨b, 4, none⟩ = some (.int .i64 m.op) := (cellAt BX.out 4).trans rfl
      have X_5 : wn.cell? ⟨b, 5, none⟩ = some (.int .i64 m.commit) := (cellAt BX.out 5).trans rfl
      have X_6 : wn.cell? ⟨b, 6, none⟩ = some (.int .i64 m.normal) := (cellAt BX.out 6).trans rfl
      have X_7 : wn.cell? ⟨b, 7, none⟩ = some (.slice B k d) := (cellAt BX.out 7).trans rfl
      have hkd := HKD.out
      go_wp2_with fail
      clear X_K X_1 X_2 X_3 X_4 X_5 X_6 X_7
      rw [← hkd]
      clear hkd
      refine (turn5_any H.out HM.out (fun j hj _ e => HR.out j hj.1 hj.2 e) HOK.out HMR.out HS.out HO.out HKD.out).mono ?_
      rintro e' we ⟨A', n', c', O', rfl, he, hoe, ke⟩
      have H2 := hid he
      have K2 := hid ke
      clear he hoe ke
      go_wp2_with fail
      refine (sent_any H2.out).mono ?_
      rintro e' w9 ⟨rfl, h9, hv9, k9⟩
      have H9 := hid h9
      have HV9 := hid hv9
      have K9 := hid k9
      clear h9 hv9 k9
      go_wp2_with fail
      go_ret2
      have e1 : deliverR r m = (turnR r m, 0) := by rw [HDL.out]; unfold heardR; rw [if_neg (fun h => by rcases h with h | h <;> exact absurd (HKD.out.symm.trans h) (by decide))]; rw [if_neg (fun h => absurd (HKD.out.symm.trans h) (by decide))]; rw [if_pos (.inr HKD.out)]
      rw [e1]
      refine ⟨_, rfl, ⟨_, _, _, H9.out⟩, HV9.out, no_own ?_⟩
      exact ((K.out.mono (S' := fun j => M4 p b1 b2 b3 j ∨ (Value.slice none 0 0).ownBlock = some j) (fun _ h _ => h.elim)).trans K2.out (fun j hj _ => hj)).trans K9.out (fun j hj _ => .inl (.inl hj))
    · have HKD := hid hk
      clear hk
      have X_K : wn.cell? ⟨b, 0, none⟩ = some (.int .i64 6) := by rw [← HKD.out]; exact (cellAt BX.out 0).trans rfl
      go_wp2_with fail
      clear X_K
      have X_1 : ∀ wx, Chg (fun _ => False) wn wx → wx.cell? ⟨b, 1, none⟩ = some (.int .i64 m.view) := fun wx hx => (cellAt (hx.blk BX.out (fun h => h)) 1).trans rfl
      have X_2 : ∀ wx, Chg (fun _ => False) wn wx → wx.cell? ⟨b, 2, none⟩ = some (.int .i64 m.src) := fun wx hx => (cellAt (hx.blk BX.out (fun h => h)) 2).trans rfl
      by_cases hp : m.src = primR r m.view
      · have hp2 : (m.src == primR r m.view) = true := by simp [hp]
        have HP := hid hp
        clear hp
        refine wpB_start (fun wx : World => Chg (fun _ => False) wn wx) (by kernel_rfl) ?_
        have hHeld : (fun wx : World => Chg (fun _ => False) wn wx) _ := (Chg.refl (fun _ => False) wn).drew
        -- 0: t83 := fieldAddr 41 t3 2 : 0
        refine wpB_take (i := 0) (v := ?_) (get_of_drop rfl) (by kernel_rfl) (by kernel_rfl) (by kernel_rfl) (by kernel_rfl) (fun _ _ _ h => h) (Or.inl ⟨by rfl, ?_⟩) hHeld ?_
        rotate_left
        · (intro w hSw; (try dsimp only at hSw); go_simp <;> with_reducible rfl)
        try simp only [Act.put, List.setIfInBounds_toArray, List.set_cons_zero, List.set_cons_succ]
        -- 1: t84 := load 3 t83 : 3
        refine wpB_take (i := 1) (v := ?_) (get_of_drop rfl) (by kernel_rfl) (by kernel_rfl) (by kernel_rfl) (by kernel_rfl) (fun _ _ _ h => h) (Or.inl ⟨by rfl, ?_⟩) hHeld ?_
        rotate_left
        · (intro w hSw; (try dsimp only at hSw); go_simp <;> with_reducible rfl)
        try simp only [Act.put, List.setIfInBounds_toArray, List.set_cons_zero, List.set_cons_succ]
        -- 2: t85 := move t0 : 30
        refine wpB_take (i := 2) (v := ?_) (get_of_drop rfl) (by kernel_rfl) (by kernel_rfl) (by kernel_rfl) (by kernel_rfl) (fun _ _ _ h => h) (Or.inl ⟨by rfl, ?_⟩) hHeld ?_
        rotate_left
        · (intro w hSw; (try dsimp only at hSw); go_simp <;> with_reducible rfl)
        try simp only [Act.put, List.setIfInBounds_toArray, List.set_cons_zero, List.set_cons_succ]
        -- 3: t86 := fieldAddr 41 t3 1 : 0
        refine wpB_take (i := 3) (v := ?_) (get_of_drop rfl) (by kernel_rfl) (by kernel_rfl) (by kernel_rfl) (by kernel_rfl) (fun _ _ _ h => h) (Or.inl ⟨by rfl, ?_⟩) hHeld ?_
        rotate_left
        · (intro w hSw; (try dsimp only at hSw); go_simp <;> with_reducible rfl)
        try simp only [Act.put, List.setIfInBounds_toArray, List.set_cons_zero, List.set_cons_succ]
        -- 4: t87 := load 3 t86 : 3
        refine wpB_take (i := 4) (v := ?_) (get_of_drop rfl) (by kernel_rfl) (by kernel_rfl) (by kernel_rfl) (by kernel_rfl) (fun _ _ _ h => h) (Or.inl ⟨by rfl, ?_⟩) hHeld ?_
        rotate_left
        · (intro w hSw; (try dsimp only at hSw); go_simp <;> with_reducible rfl)
        try simp only [Act.put, List.setIfInBounds_toArray, List.set_cons_zero, List.set_cons_succ]
        -- 5: t88 := CALL fn48(t85, t87) : 3
        refine wpB_act (i := 5) (by kernel_rfl) (get_of_drop rfl) (fun K hK => ?_)
        go_simp
        refine (prim_any (H.out.far hHeld) HOK.out.cfg.1 (msgR_num HMR.out).2.1).mono ?_
        rintro e' wy ⟨rfl, rfl⟩
        refine hK.out _ _ ?_ (fun hHeld2 => ?_)
        · first | assumption | exact Chg.alloc hHeld _
        clear hHeld hK K
        have hHeld := hHeld2
        clear hHeld2
        try simp only [Act.put, List.setIfInBounds_toArray, List.set_cons_zero, List.set_cons_succ]
        -- 6: t89 := binOp BinOp.eql 3 t84 t88 3 : 4
        refine wpB_take (i := 6) (v := ?_) (get_of_drop rfl) (by kernel_rfl) (by kernel_rfl) (by kernel_rfl) (by kernel_rfl) (fun _ _ _ h => h) (Or.inl ⟨by rfl, ?_⟩) hHeld ?_
        rotate_left
        · (intro w hSw; (try dsimp only at hSw); go_simp <;> with_reducible rfl)
        try simp only [Act.put, List.setIfInBounds_toArray, List.set_cons_zero, List.set_cons_succ]
        -- 7: t90 := move t89 : 4
        refine wpB_take (i := 7) (v := ?_) (get_of_drop rfl) (by kernel_rfl) (by kernel_rfl) (by kernel_rfl) (by kernel_rfl) (fun _ _ _ h => h) (Or.inl ⟨by rfl, ?_⟩) hHeld ?_
        rotate_left
        · (intro w hSw; (try dsimp only at hSw); go_simp <;> with_reducible rfl)
        try simp only [Act.put, List.setIfInBounds_toArray, List.set_cons_zero, List.set_cons_succ]
        -- 8: t91 := move t6 : 4   [if ⟨7, true⟩]
        refine wpB_take (i := 8) (v := ?_) (get_of_drop rfl) (by kernel_rfl) (by kernel_rfl) (by kernel_rfl) (by kernel_rfl) (fun _ _ _ h => h) (Or.inl ⟨by rfl, ?_⟩) hHeld ?_
        rotate_left
        · (intro w hSw; (try dsimp only at hSw); go_simp <;> with_reducible rfl)
        try simp only [Act.put, List.setIfInBounds_toArray, List.set_cons_zero, List.set_cons_succ]
        -- 9: t92 := pick t90 t91 #false : 4
        refine wpB_take (i := 9) (v := ?_) (get_of_drop rfl) (by kernel_rfl) (by kernel_rfl) (by kernel_rfl) (by kernel_rfl) (fun _ _ _ h => h) (Or.inl ⟨by rfl, ?_⟩) hHeld ?_
        rotate_left
        · (intro w hSw; (try dsimp only at hSw); go_simp <;> with_reducible rfl)
        try simp only [Act.put, List.setIfInBounds_toArray, List.set_cons_zero, List.set_cons_succ]
        refine wpB_done (by kernel_rfl) ?_ _
        obtain ⟨wm, hdn⟩ : ∃ q_, q_ = wn.drew := ⟨_, rfl⟩
        rw [← hdn]
        replace K := hid (show Chg (fun _ => False) w wm by rw [hdn]; exact K.out.drew)
        replace H := hid (show Rep w wm p b1 b2 b3 X r A n c (.slice none 0 0) by rw [hdn]; exact H.out.far ((Chg.refl (fun _ => False) wn).drew))
        replace BX := hid (show wm.heap[b]? = some (.cells #[.int .i64 m.kind, .int .i64 m.view, .int .i64 m.src, .int .i64 m.dst, .int .i64 m.op, .int .i64 m.commit, .int .i64 m.normal, .slice B k d] 41 (0, 0)) by rw [hdn]; exact blk_drew BX.out)
        replace HM := hid (show Ty.At entryK wm (fun j => R j ∧ j < w.heap.size) B k d m.log by rw [hdn]; exact HM.out.chg ((Chg.refl (fun _ => False) wn).drew) (fun _ _ h => h))
        replace BP := hid H.out.blk
        clear hdn hHeld
        clear X_1 X_2 hp2
        cases hnw : newerR r m
        · have HNW := hid hnw
          clear hnw
          have H2 := hid H.out
          have K2 := hid (show Chg (fun j => M4 p b1 b2 b3 j ∨ (Value.slice none 0 0).ownBlock = some j) wm wm from Chg.refl _ _)
          go_wp2_with fail
          refine (sent_any H2.out).mono ?_
          rintro e' w9 ⟨rfl, h9, hv9, k9⟩
          have H9 := hid h9
          have HV9 := hid hv9
          have K9 := hid k9
          clear h9 hv9 k9
          go_wp2_with fail
          go_ret2
          have e1 : deliverR r m = (r, 0) := by rw [HDL.out]; unfold heardR; rw [if_neg (fun h => by rcases h with h | h <;> exact absurd (HKD.out.symm.trans h) (by decide))]; rw [if_neg (fun h => absurd (HKD.out.symm.trans h) (by decide))]; rw [if_neg (fun h => by rcases h with h | h <;> exact absurd (HKD.out.symm.trans h) (by decide))]; rw [if_pos HKD.out]; rw [if_neg (fun h => by rw [HNW.out] at h; exact absurd h.2 (by decide))]
          rw [e1]
          refine ⟨_, rfl, ⟨_, _, _, H9.out⟩, HV9.out, no_own ?_⟩
          exact ((K.out.mono (S' := fun j => M4 p b1 b2 b3 j ∨ (Value.slice none 0 0).ownBlock = some j) (fun _ h _ => h.elim)).trans K2.out (fun j hj _ => hj)).trans K9.out (fun j hj _ => .inl (.inl hj))
        · have HNW := hid hnw
          clear hnw
          have X_0 : wm.cell? ⟨b, 0, none⟩ = some (.int .i64 m.kind) := (cellAt BX.out 0).trans rfl
          have X_1 : wm.cell? ⟨b, 1, none⟩ = some (.int .i64 m.view) := (cellAt BX.out 1).trans rfl
          have X_2 : wm.cell? ⟨b, 2, none⟩ = some (.int .i64 m.src) := (cellAt BX.out 2).trans rfl
          have X_3 : wm.cell? ⟨b, 3, none⟩ = some (.int .i64 m.dst) := (cellAt BX.out 3).trans rfl
          have X_4 : wm.cell? ⟨b, 4, none⟩ = some (.int .i64 m.op) := (cellAt BX.out 4).trans rfl
          have X_5 : wm.cell? ⟨b, 5, none⟩ = some (.int .i64 m.commit) := (cellAt BX.out 5).trans rfl
          have X_6 : wm.cell? ⟨b, 6, none⟩ = some (.int .i64 m.normal) := (cellAt BX.out 6).trans rfl
          have X_7 : wm.cell? ⟨b, 7, none⟩ = some (.slice B k d) := (cellAt BX.out 7).trans rfl
          go_wp2_with fail
          clear X_0 X_1 X_2 X_3 X_4 X_5 X_6 X_7
          refine (take_any H.out HM.out HOK.out HMR.out (by rw [HO.out]; decide)).mono ?_
          rintro e' we ⟨A', n', c', O', rfl, he, hoe, ke⟩
          have H2 := hid he
          have K2 := hid ke
          clear he hoe ke
          go_wp2_with fail
          refine (sent_any H2.out).mono ?_
          rintro e' w9 ⟨rfl, h9, hv9, k9⟩
          have H9 := hid h9
          have HV9 := hid hv9
          have K9 := hid k9
          clear h9 hv9 k9
          go_wp2_with fail
          go_ret2
          have e1 : deliverR r m = (takeR r m, 0) := by rw [HDL.out]; unfold heardR; rw [if_neg (fun h => by rcases h with h | h <;> exact absurd (HKD.out.symm.trans h) (by decide))]; rw [if_neg (fun h => absurd (HKD.out.symm.trans h) (by decide))]; rw [if_neg (fun h => by rcases h with h | h <;> exact absurd (HKD.out.symm.trans h) (by decide))]; rw [if_pos HKD.out]; rw [if_pos ⟨HP.out, HNW.out⟩]
          rw [e1]
          refine ⟨_, rfl, ⟨_, _, _, H9.out⟩, HV9.out, no_own ?_⟩
          exact ((K.out.mono (S' := fun j => M4 p b1 b2 b3 j ∨ (Value.slice none 0 0).ownBlock = some j) (fun _ h _ => h.elim)).trans K2.out (fun j hj _ => hj)).trans K9.out (fun j hj _ => .inl (.inl hj))
      · have hp2 : (m.src == primR r m.view) = false := by simp [hp]
        have HP := hid (show ¬ m.src = primR r m.view from hp)
        clear hp
        refine wpB_start (fun wx : World => Chg (fun _ => False) wn wx) (by kernel_rfl) ?_
        have hHeld : (fun wx : World => Chg (fun _ => False) wn wx) _ := (Chg.refl (fun _ => False) wn).drew
        -- 0: t83 := fieldAddr 41 t3 2 : 0
        refine wpB_take (i := 0) (v := ?_) (get_of_drop rfl) (by kernel_rfl) (by kernel_rfl) (by kernel_rfl) (by kernel_rfl) (fun _ _ _ h => h) (Or.inl ⟨by rfl, ?_⟩) hHeld ?_
        rotate_left
        · (intro w hSw; (try dsimp only at hSw); go_simp <;> with_reducible rfl)
        try simp only [Act.put, List.setIfInBounds_toArray, List.set_cons_zero, List.set_cons_succ]
        -- 1: t84 := load 3 t83 : 3
        refine wpB_take (i := 1) (v := ?_) (get_of_drop rfl) (by kernel_rfl) (by kernel_rfl) (by kernel_rfl) (by kernel_rfl) (fun _ _ _ h => h) (Or.inl ⟨by rfl, ?_⟩) hHeld ?_
        rotate_left
        · (intro w hSw; (try dsimp only at hSw); go_simp <;> with_reducible rfl)
        try simp only [Act.put, List.setIfInBounds_toArray, List.set_cons_zero, List.set_cons_succ]
        -- 2: t85 := move t0 : 30
        refine wpB_take (i := 2) (v := ?_) (get_of_drop rfl) (by kernel_rfl) (by kernel_rfl) (by kernel_rfl) (by kernel_rfl) (fun _ _ _ h => h) (Or.inl ⟨by rfl, ?_⟩) hHeld ?_
        rotate_left
        · (intro w hSw; (try dsimp only at hSw); go_simp <;> with_reducible rfl)
        try simp only [Act.put, List.setIfInBounds_toArray, List.set_cons_zero, List.set_cons_succ]
        -- 3: t86 := fieldAddr 41 t3 1 : 0
        refine wpB_take (i := 3) (v := ?_) (get_of_drop rfl) (by kernel_rfl) (by kernel_rfl) (by kernel_rfl) (by kernel_rfl) (fun _ _ _ h => h) (Or.inl ⟨by rfl, ?_⟩) hHeld ?_
        rotate_left
        · (intro w hSw; (try dsimp only at hSw); go_simp <;> with_reducible rfl)
        try simp only [Act.put, List.setIfInBounds_toArray, List.set_cons_zero, List.set_cons_succ]
        -- 4: t87 := load 3 t86 : 3
        refine wpB_take (i := 4) (v := ?_) (get_of_drop rfl) (by kernel_rfl) (by kernel_rfl) (by kernel_rfl) (by kernel_rfl) (fun _ _ _ h => h) (Or.inl ⟨by rfl, ?_⟩) hHeld ?_
        rotate_left
        · (intro w hSw; (try dsimp only at hSw); go_simp <;> with_reducible rfl)
        try simp only [Act.put, List.setIfInBounds_toArray, List.set_cons_zero, List.set_cons_succ]
        -- 5: t88 := CALL fn48(t85, t87) : 3
        refine wpB_act (i := 5) (by kernel_rfl) (get_of_drop rfl) (fun K hK => ?_)
        go_simp
        refine (prim_any (H.out.far hHeld) HOK.out.cfg.1 (msgR_num HMR.out).2.1).mono ?_
        rintro e' wy ⟨rfl, rfl⟩
        refine hK.out _ _ ?_ (fun hHeld2 => ?_)
        · first | assumption | exact Chg.alloc hHeld _
        clear hHeld hK K
        have hHeld := hHeld2
        clear hHeld2
        try simp only [Act.put, List.setIfInBounds_toArray, List.set_cons_zero, List.set_cons_succ]
        -- 6: t89 := binOp BinOp.eql 3 t84 t88 3 : 4
        refine wpB_take (i := 6) (v := ?_) (get_of_drop rfl) (by kernel_rfl) (by kernel_rfl) (by kernel_rfl) (by kernel_rfl) (fun _ _ _ h => h) (Or.inl ⟨by rfl, ?_⟩) hHeld ?_
        rotate_left
        · (intro w hSw; (try dsimp only at hSw); go_simp <;> with_reducible rfl)
        try simp only [Act.put, List.setIfInBounds_toArray, List.set_cons_zero, List.set_cons_succ]
        -- 7: t90 := move t89 : 4
        refine wpB_take (i := 7) (v := ?_) (get_of_drop rfl) (by kernel_rfl) (by kernel_rfl) (by kernel_rfl) (by kernel_rfl) (fun _ _ _ h => h) (Or.inl ⟨by rfl, ?_⟩) hHeld ?_
        rotate_left
        · (intro w hSw; (try dsimp only at hSw); go_simp <;> with_reducible rfl)
        try simp only [Act.put, List.setIfInBounds_toArray, List.set_cons_zero, List.set_cons_succ]
        -- 8: t91 := move t6 : 4   [if ⟨7, true⟩]
        refine wpB_take (i := 8) (v := undef) (get_of_drop rfl) (by kernel_rfl) (by kernel_rfl) (by kernel_rfl) (by kernel_rfl) (fun _ _ _ h => h) (Or.inr ⟨by rfl, rfl⟩) hHeld ?_
        try simp only [Act.put, List.setIfInBounds_toArray, List.set_cons_zero, List.set_cons_succ]
        -- 9: t92 := pick t90 t91 #false : 4
        refine wpB_take (i := 9) (v := ?_) (get_of_drop rfl) (by kernel_rfl) (by kernel_rfl) (by kernel_rfl) (by kernel_rfl) (fun _ _ _ h => h) (Or.inl ⟨by rfl, ?_⟩) hHeld ?_
        rotate_left
        · (intro w hSw; (try dsimp only at hSw); go_simp <;> with_reducible rfl)
        try simp only [Act.put, List.setIfInBounds_toArray, List.set_cons_zero, List.set_cons_succ]
        refine wpB_done (by kernel_rfl) ?_ _
        obtain ⟨wm, hdn⟩ : ∃ q_, q_ = wn.drew := ⟨_, rfl⟩
        rw [← hdn]
        replace K := hid (show Chg (fun _ => False) w wm by rw [hdn]; exact K.out.drew)
        replace H := hid (show Rep w wm p b1 b2 b3 X r A n c (.slice none 0 0) by rw [hdn]; exact H.out.far ((Chg.refl (fun _ => False) wn).drew))
        replace BX := hid (show wm.heap[b]? = some (.cells #[.int .i64 m.kind, .int .i64 m.view, .int .i64 m.src, .int .i64 m.dst, .int .i64 m.op, .int .i64 m.commit, .int .i64 m.normal, .slice B k d] 41 (0, 0)) by rw [hdn]; exact blk_drew BX.out)
        replace HM := hid (show Ty.At entryK wm (fun j => R j ∧ j < w.heap.size) B k d m.log by rw [hdn]; exact HM.out.chg ((Chg.refl (fun _ => False) wn).drew) (fun _ _ h => h))
        replace BP := hid H.out.blk
        clear hdn hHeld
        clear X_1 X_2 hp2
        have H2 := hid H.out
        have K2 := hid (show Chg (fun j => M4 p b1 b2 b3 j ∨ (Value.slice none 0 0).ownBlock = some j) wm wm from Chg.refl _ _)
        go_wp2_with fail
        refine (sent_any H2.out).mono ?_
        rintro e' w9 ⟨rfl, h9, hv9, k9⟩
        have H9 := hid h9
        have HV9 := hid hv9
        have K9 := hid k9
        clear h9 hv9 k9
        go_wp2_with fail
        go_ret2
        have e1 : deliverR r m = (r, 0) := by rw [HDL.out]; unfold heardR; rw [if_neg (fun h => by rcases h with h | h <;> exact absurd (HKD.out.symm.trans h) (by decide))]; rw [if_neg (fun h => absurd (HKD.out.symm.trans h) (by decide))]; rw [if_neg (fun h => by rcases h with h | h <;> exact absurd (HKD.out.symm.trans h) (by decide))]; rw [if_pos HKD.out]; rw [if_neg (fun h => HP.out h.1)]
        rw [e1]
        refine ⟨_, rfl, ⟨_, _, _, H9.out⟩, HV9.out, no_own ?_⟩
        exact ((K.out.mono (S' := fun j => M4 p b1 b2 b3 j ∨ (Value.slice none 0 0).ownBlock = some j) (fun _ h _ => h.elim)).trans K2.out (fun j hj _ => hj)).trans K9.out (fun j hj _ => .inl (.inl hj))
    · have HKD := hid hk
      clear hk
      have X_K : wn.cell? ⟨b, 0, none⟩ = some (.int .i64 7) := by rw [← HKD.out]; exact (cellAt BX.out 0).trans rfl
      go_wp2_with fail
      clear X_K
      have X_1 : ∀ wx, Chg (fun _ => False) wn wx → wx.cell? ⟨b, 1, none⟩ = some (.int .i64 m.view) := fun wx hx => (cellAt (hx.blk BX.out (fun h => h)) 1).trans rfl
      have U_3 : ∀ wx, Chg (fun _ => False) wn wx → wx.cell? ⟨p, 3, none⟩ = some (.int .i64 r.s.view) := fun wx hx => (cellAt (hx.blk BP.out (fun h => h)) 3).trans rfl
      by_cases hv : m.view = r.s.view
      · have hv2 : (m.view == r.s.view) = true := by simp [hv]
        have HV := hid hv
        clear hv
        cases hch : r.ch
        · have U_8 : ∀ wx, Chg (fun _ => False) wn wx → wx.cell? ⟨p, 8, none⟩ = some (.bool false) := fun wx hx => by rw [← hch]; exact (cellAt (hx.blk BP.out (fun h => h)) 8).trans rfl
          have HCH := hid hch
          clear hch
          refine wpB_start (fun wx : World => Chg (fun _ => False) wn wx) (by kernel_rfl) ?_
          have hHeld : (fun wx : World => Chg (fun _ => False) wn wx) _ := (Chg.refl (fun _ => False) wn).drew
          -- 0: t98 := fieldAddr 41 t3 1 : 0
          refine wpB_take (i := 0) (v := ?_) (get_of_drop rfl) (by kernel_rfl) (by kernel_rfl) (by kernel_rfl) (by kernel_rfl) (fun _ _ _ h => h) (Or.inl ⟨by rfl, ?_⟩) hHeld ?_
          rotate_left
          · (intro w hSw; (try dsimp only at hSw); go_simp <;> with_reducible rfl)
          try simp only [Act.put, List.setIfInBounds_toArray, List.set_cons_zero, List.set_cons_succ]
          -- 1: t99 := load 3 t98 : 3
          refine wpB_take (i := 1) (v := ?_) (get_of_drop rfl) (by kernel_rfl) (by kernel_rfl) (by kernel_rfl) (by kernel_rfl) (fun _ _ _ h => h) (Or.inl ⟨by rfl, ?_⟩) hHeld ?_
          rotate_left
          · (intro w hSw; (try dsimp only at hSw); go_simp <;> with_reducible rfl)
          try simp only [Act.put, List.setIfInBounds_toArray, List.set_cons_zero, List.set_cons_succ]
          -- 2: t100 := move t0 : 30
          refine wpB_take (i := 2) (v := ?_) (get_of_drop rfl) (by kernel_rfl) (by kernel_rfl) (by kernel_rfl) (by kernel_rfl) (fun _ _ _ h => h) (Or.inl ⟨by rfl, ?_⟩) hHeld ?_
          rotate_left
          · (intro w hSw; (try dsimp only at hSw); go_simp <;> with_reducible rfl)
          try simp only [Act.put, List.setIfInBounds_toArray, List.set_cons_zero, List.set_cons_succ]
          -- 3: t101 := nilCheck t100 : 0
          refine wpB_take (i := 3) (v := ?_) (get_of_drop rfl) (by kernel_rfl) (by kernel_rfl) (by kernel_rfl) (by kernel_rfl) (fun _ _ _ h => h) (Or.inl ⟨by rfl, ?_⟩) hHeld ?_
          rotate_left
          · (intro w hSw; (try dsimp only at hSw); go_simp <;> with_reducible rfl)
          try simp only [Act.put, List.setIfInBounds_toArray, List.set_cons_zero, List.set_cons_succ]
          -- 4: t102 := fieldAddr 100 t101 1 : 0
          refine wpB_take (i := 4) (v := ?_) (get_of_drop rfl) (by kernel_rfl) (by kernel_rfl) (by kernel_rfl) (by kernel_rfl) (fun _ _ _ h => h) (Or.inl ⟨by rfl, ?_⟩) hHeld ?_
          rotate_left
          · (intro w hSw; (try dsimp only at hSw); go_simp <;> with_reducible rfl)
          try simp only [Act.put, List.setIfInBounds_toArray, List.set_cons_zero, List.set_cons_succ]
          -- 5: t103 := fieldAddr 26 t102 0 : 0
          refine wpB_take (i := 5) (v := ?_) (get_of_drop rfl) (by kernel_rfl) (by kernel_rfl) (by kernel_rfl) (by kernel_rfl) (fun _ _ _ h => h) (Or.inl ⟨by rfl, ?_⟩) hHeld ?_
          rotate_left
          · (intro w hSw; (try dsimp only at hSw); go_simp <;> with_reducible rfl)
          try simp only [Act.put, List.setIfInBounds_toArray, List.set_cons_zero, List.set_cons_succ]
          -- 6: t104 := load 3 t103 : 3
          refine wpB_take (i := 6) (v := ?_) (get_of_drop rfl) (by kernel_rfl) (by kernel_rfl) (by kernel_rfl) (by kernel_rfl) (fun _ _ _ h => h) (Or.inl ⟨by rfl, ?_⟩) hHeld ?_
          rotate_left
          · (intro w hSw; (try dsimp only at hSw); go_simp <;> with_reducible rfl)
          try simp only [Act.put, List.setIfInBounds_toArray, List.set_cons_zero, List.set_cons_succ]
          -- 7: t105 := binOp BinOp.eql 3 t99 t104 3 : 4
          refine wpB_take (i := 7) (v := ?_) (get_of_drop rfl) (by kernel_rfl) (by kernel_rfl) (by kernel_rfl) (by kernel_rfl) (fun _ _ _ h => h) (Or.inl ⟨by rfl, ?_⟩) hHeld ?_
          rotate_left
          · (intro w hSw; (try dsimp only at hSw); go_simp <;> with_reducible rfl)
          try simp only [Act.put, List.setIfInBounds_toArray, List.set_cons_zero, List.set_cons_succ]
          -- 8: t106 := move t105 : 4
          refine wpB_take (i := 8) (v := ?_) (get_of_drop rfl) (by kernel_rfl) (by kernel_rfl) (by kernel_rfl) (by kernel_rfl) (fun _ _ _ h => h) (Or.inl ⟨by rfl, ?_⟩) hHeld ?_
          rotate_left
          · (intro w hSw; (try dsimp only at hSw); go_simp <;> with_reducible rfl)
          try simp only [Act.put, List.setIfInBounds_toArray, List.set_cons_zero, List.set_cons_succ]
          -- 9: t107 := move t0 : 30   [if ⟨8, true⟩]
          refine wpB_take (i := 9) (v := ?_) (get_of_drop rfl) (by kernel_rfl) (by kernel_rfl) (by kernel_rfl) (by kernel_rfl) (fun _ _ _ h => h) (Or.inl ⟨by rfl, ?_⟩) hHeld ?_
          rotate_left
          · (intro w hSw; (try dsimp only at hSw); go_simp <;> with_reducible rfl)
          try simp only [Act.put, List.setIfInBounds_toArray, List.set_cons_zero, List.set_cons_succ]
          -- 10: t108 := nilCheck t107 : 0   [if ⟨8, true⟩]
          refine wpB_take (i := 10) (v := ?_) (get_of_drop rfl) (by kernel_rfl) (by kernel_rfl) (by kernel_rfl) (by kernel_rfl) (fun _ _ _ h => h) (Or.inl ⟨by rfl, ?_⟩) hHeld ?_
          rotate_left
          · (intro w hSw; (try dsimp only at hSw); go_simp <;> with_reducible rfl)
          try simp only [Act.put, List.setIfInBounds_toArray, List.set_cons_zero, List.set_cons_succ]
          -- 11: t109 := fieldAddr 100 t108 2 : 0   [if ⟨8, true⟩]
          refine wpB_take (i := 11) (v := ?_) (get_of_drop rfl) (by kernel_rfl) (by kernel_rfl) (by kernel_rfl) (by kernel_rfl) (fun _ _ _ h => h) (Or.inl ⟨by rfl, ?_⟩) hHeld ?_
          rotate_left
          · (intro w hSw; (try dsimp only at hSw); go_simp <;> with_reducible rfl)
          try simp only [Act.put, List.setIfInBounds_toArray, List.set_cons_zero, List.set_cons_succ]
          -- 12: t110 := load 4 t109 : 4   [if ⟨8, true⟩]
          refine wpB_take (i := 12) (v := ?_) (get_of_drop rfl) (by kernel_rfl) (by kernel_rfl) (by kernel_rfl) (by kernel_rfl) (fun _ _ _ h => h) (Or.inl ⟨by rfl, ?_⟩) hHeld ?_
          rotate_left
          · (intro w hSw; (try dsimp only at hSw); go_simp <;> with_reducible rfl)
          try simp only [Act.put, List.setIfInBounds_toArray, List.set_cons_zero, List.set_cons_succ]
          -- 13: t111 := unOp UnOp.not 4 t110 : 4   [if ⟨8, true⟩]
          refine wpB_take (i := 13) (v := ?_) (get_of_drop rfl) (by kernel_rfl) (by kernel_rfl) (by kernel_rfl) (by kernel_rfl) (fun _ _ _ h => h) (Or.inl ⟨by rfl, ?_⟩) hHeld ?_
          rotate_left
          · (intro w hSw; (try dsimp only at hSw); go_simp <;> with_reducible rfl)
          try simp only [Act.put, List.setIfInBounds_toArray, List.set_cons_zero, List.set_cons_succ]
          -- 14: t112 := pick t106 t111 #false : 4
          refine wpB_take (i := 14) (v := ?_) (get_of_drop rfl) (by kernel_rfl) (by kernel_rfl) (by kernel_rfl) (by kernel_rfl) (fun _ _ _ h => h) (Or.inl ⟨by rfl, ?_⟩) hHeld ?_
          rotate_left
          · (intro w hSw; (try dsimp only at hSw); go_simp <;> with_reducible rfl)
          try simp only [Act.put, List.setIfInBounds_toArray, List.set_cons_zero, List.set_cons_succ]
          refine wpB_done (by kernel_rfl) ?_ _
          obtain ⟨wm, hdn⟩ : ∃ q_, q_ = wn.drew := ⟨_, rfl⟩
          rw [← hdn]
          replace K := hid (show Chg (fun _ => False) w wm by rw [hdn]; exact K.out.drew)
          replace H := hid (show Rep w wm p b1 b2 b3 X r A n c (.slice none 0 0) by rw [hdn]; exact H.out.far ((Chg.refl (fun _ => False) wn).drew))
          replace BX := hid (show wm.heap[b]? = some (.cells #[.int .i64 m.kind, .int .i64 m.view, .int .i64 m.src, .int .i64 m.dst, .int .i64 m.op, .int .i64 m.commit, .int .i64 m.normal, .slice B k d] 41 (0, 0)) by rw [hdn]; exact blk_drew BX.out)
          replace HM := hid (show Ty.At entryK wm (fun j => R j ∧ j < w.heap.size) B k d m.log by rw [hdn]; exact HM.out.chg ((Chg.refl (fun _ => False) wn).drew) (fun _ _ h => h))
          replace BP := hid H.out.blk
          clear hdn hHeld
          clear U_8 U_3 X_1 hv2
          have X_2 : ∀ wx, Chg (fun _ => False) wm wx → wx.cell? ⟨b, 2, none⟩ = some (.int .i64 m.src) := fun wx hx => (cellAt (hx.blk BX.out (fun h => h)) 2).trans rfl
          go_wp2_with fail
          refine wpB_start (fun wx : World => Chg (fun _ => False) wm wx) (by kernel_rfl) ?_
          have hHeld : (fun wx : World => Chg (fun _ => False) wm wx) _ := (Chg.refl (fun _ => False) wm).drew
          -- 0: t113 := move t0 : 30
          refine wpB_take (i := 0) (v := ?_) (get_of_drop rfl) (by kernel_rfl) (by kernel_rfl) (by kernel_rfl) (by kernel_rfl) (fun _ _ _ h => h) (Or.inl ⟨by rfl, ?_⟩) hHeld ?_
          rotate_left
          · (intro w hSw; (try dsimp only at hSw); go_simp <;> with_reducible rfl)
          try simp only [Act.put, List.setIfInBounds_toArray, List.set_cons_zero, List.set_cons_succ]
          -- 1: t114 := fieldAddr 41 t3 2 : 0
          refine wpB_take (i := 1) (v := ?_) (get_of_drop rfl) (by kernel_rfl) (by kernel_rfl) (by kernel_rfl) (by kernel_rfl) (fun _ _ _ h => h) (Or.inl ⟨by rfl, ?_⟩) hHeld ?_
          rotate_left
          · (intro w hSw; (try dsimp only at hSw); go_simp <;> with_reducible rfl)
          try simp only [Act.put, List.setIfInBounds_toArray, List.set_cons_zero, List.set_cons_succ]
          -- 2: t115 := load 3 t114 : 3
          refine wpB_take (i := 2) (v := ?_) (get_of_drop rfl) (by kernel_rfl) (by kernel_rfl) (by kernel_rfl) (by kernel_rfl) (fun _ _ _ h => h) (Or.inl ⟨by rfl, ?_⟩) hHeld ?_
          rotate_left
          · (intro w hSw; (try dsimp only at hSw); go_simp <;> with_reducible rfl)
          try simp only [Act.put, List.setIfInBounds_toArray, List.set_cons_zero, List.set_cons_succ]
          -- 3: t116 := move t0 : 30
          refine wpB_take (i := 3) (v := ?_) (get_of_drop rfl) (by kernel_rfl) (by kernel_rfl) (by kernel_rfl) (by kernel_rfl) (fun _ _ _ h => h) (Or.inl ⟨by rfl, ?_⟩) hHeld ?_
          rotate_left
          · (intro w hSw; (try dsimp only at hSw); go_simp <;> with_reducible rfl)
          try simp only [Act.put, List.setIfInBounds_toArray, List.set_cons_zero, List.set_cons_succ]
          -- 4: t117 := CALL fn54(t116, #i64:8) : 41
          refine wpB_act (i := 4) (by kernel_rfl) (get_of_drop rfl) (fun K hK => ?_)
          go_simp
          refine (told_any (H.out.far hHeld) HN.out).mono ?_
          rintro e' wt ⟨rfl, ht⟩
          have HTW := hid (show Chg (fun _ => False) wm wt from hHeld.trans ht (fun _ h _ => h))
          clear ht
          refine hK.out _ _ ?_ (fun hHeld2 => ?_)
          · first | assumption | exact HTW.out
          clear hHeld hK K
          have hHeld := hHeld2
          clear hHeld2
          try simp only [Act.put, List.setIfInBounds_toArray, List.set_cons_zero, List.set_cons_succ]
          -- 5: t118 := CALL fn53(t113, t115, t117) : 0 (BARRIER)
          refine wpB_bar (i := 5) (by kernel_rfl) (get_of_drop rfl) (by kernel_rfl) (fun K hK => ?_)
          go_simp
          refine (send_any (m := ⟨8, 0, 0, 0, (n : Int), r.s.commit, 0, r.s.log⟩) (H.out.far HTW.out) ((H.out.log).chg HTW.out (fun _ _ h => h)) (by have := HN.out; omega) (fits_right HST.out.2.2.2.2.2) ⟨show NumW 8 by decide, numW_of (by have := HN.out; show _ ≤ (n : Int) ∧ (n : Int) ≤ _; omega), numW_of (by have := HST.out; show _ ≤ r.s.commit ∧ r.s.commit ≤ _; omega), show NumW 0 by decide⟩ ⟨numW_of (by have := HST.out; omega), numW_of (by have := HOK.out.cfg; omega), numW_of (by have := (msgR_num HMR.out).2.2.2.1; omega)⟩ (by rw [HO.out]; decide)).mono ?_
          rintro e' we ⟨O', rfl, he, hoe, ke⟩
          have H2 := hid he
          have KE := hid ke
          clear he hoe ke
          refine hK.out _ _ (fun _ : World => True) ?_
          clear hHeld hK K
          have hHeld := trivial
          try simp only [Act.put, List.setIfInBounds_toArray, List.set_cons_zero, List.set_cons_succ]
          refine wpB_done (by kernel_rfl) ?_ _
          clear X_2 hHeld
          have K2 := hid (show Chg (fun j => M4 p b1 b2 b3 j ∨ (Value.slice none 0 0).ownBlock = some j) wm we from (HTW.out.mono (S' := fun j => M4 p b1 b2 b3 j ∨ (Value.slice none 0 0).ownBlock = some j) (fun _ h _ => h.elim)).trans KE.out (fun j hj _ => by rcases hj with h | h; exact .inl (.inl h); exact .inr h))
          go_wp2_with fail
          refine (sent_any H2.out).mono ?_
          rintro e' w9 ⟨rfl, h9, hv9, k9⟩
          have H9 := hid h9
          have HV9 := hid hv9
          have K9 := hid k9
          clear h9 hv9 k9
          go_wp2_with fail
          go_ret2
          have e1 : deliverR r m = (sendR r m.src ⟨8, 0, 0, 0, (n : Int), r.s.commit, 0, r.s.log⟩, 0) := by rw [HDL.out]; unfold heardR; rw [if_neg (fun h => by rcases h with h | h <;> exact absurd (HKD.out.symm.trans h) (by decide))]; rw [if_neg (fun h => absurd (HKD.out.symm.trans h) (by decide))]; rw [if_neg (fun h => by rcases h with h | h <;> exact absurd (HKD.out.symm.trans h) (by decide))]; rw [if_neg (fun h => absurd (HKD.out.symm.trans h) (by decide))]; rw [if_pos HKD.out]; rw [if_pos ⟨HV.out, HCH.out⟩]; unfold toldR; rw [L1.out]
          rw [e1]
          refine ⟨_, rfl, ⟨_, _, _, H9.out⟩, HV9.out, no_own ?_⟩
          exact ((K.out.mono (S' := fun j => M4 p b1 b2 b3 j ∨ (Value.slice none 0 0).ownBlock = some j) (fun _ h _ => h.elim)).trans K2.out (fun j hj _ => hj)).trans K9.out (fun j hj _ => .inl (.inl hj))
        · have U_8 : ∀ wx, Chg (fun _ => False) wn wx → wx.cell? ⟨p, 8, none⟩ = some (.bool true) := fun wx hx => by rw [← hch]; exact (cellAt (hx.blk BP.out (fun h => h)) 8).trans rfl
          have HCH := hid hch
          clear hch
          refine wpB_start (fun wx : World => Chg (fun _ => False) wn wx) (by kernel_rfl) ?_
          have hHeld : (fun wx : World => Chg (fun _ => False) wn wx) _ := (Chg.refl (fun _ => False) wn).drew
          -- 0: t98 := fieldAddr 41 t3 1 : 0
          refine wpB_take (i := 0) (v := ?_) (get_of_drop rfl) (by kernel_rfl) (by kernel_rfl) (by kernel_rfl) (by kernel_rfl) (fun _ _ _ h => h) (Or.inl ⟨by rfl, ?_⟩) hHeld ?_
          rotate_left
          · (intro w hSw; (try dsimp only at hSw); go_simp <;> with_reducible rfl)
          try simp only [Act.put, List.setIfInBounds_toArray, List.set_cons_zero, List.set_cons_succ]
          -- 1: t99 := load 3 t98 : 3
          refine wpB_take (i := 1) (v := ?_) (get_of_drop rfl) (by kernel_rfl) (by kernel_rfl) (by kernel_rfl) (by kernel_rfl) (fun _ _ _ h => h) (Or.inl ⟨by rfl, ?_⟩) hHeld ?_
          rotate_left
          · (intro w hSw; (try dsimp only at hSw); go_simp <;> with_reducible rfl)
          try simp only [Act.put, List.setIfInBounds_toArray, List.set_cons_zero, List.set_cons_succ]
          -- 2: t100 := move t0 : 30
          refine wpB_take (i := 2) (v := ?_) (get_of_drop rfl) (by kernel_rfl) (by kernel_rfl) (by kernel_rfl) (by kernel_rfl) (fun _ _ _ h => h) (Or.inl ⟨by rfl, ?_⟩) hHeld ?_
          rotate_left
          · (intro w hSw; (try dsimp only at hSw); go_simp <;> with_reducible rfl)
          try simp only [Act.put, List.setIfInBounds_toArray, List.set_cons_zero, List.set_cons_succ]
          -- 3: t101 := nilCheck t100 : 0
          refine wpB_take (i := 3) (v := ?_) (get_of_drop rfl) (by kernel_rfl) (by kernel_rfl) (by kernel_rfl) (by kernel_rfl) (fun _ _ _ h => h) (Or.inl ⟨by rfl, ?_⟩) hHeld ?_
          rotate_left
          · (intro w hSw; (try dsimp only at hSw); go_simp <;> with_reducible rfl)
          try simp only [Act.put, List.setIfInBounds_toArray, List.set_cons_zero, List.set_cons_succ]
          -- 4: t102 := fieldAddr 100 t101 1 : 0
          refine wpB_take (i := 4) (v := ?_) (get_of_drop rfl) (by kernel_rfl) (by kernel_rfl) (by kernel_rfl) (by kernel_rfl) (fun _ _ _ h => h) (Or.inl ⟨by rfl, ?_⟩) hHeld ?_
          rotate_left
          · (intro w hSw; (try dsimp only at hSw); go_simp <;> with_reducible rfl)
          try simp only [Act.put, List.setIfInBounds_toArray, List.set_cons_zero, List.set_cons_succ]
          -- 5: t103 := fieldAddr 26 t102 0 : 0
          refine wpB_take (i := 5) (v := ?_) (get_of_drop rfl) (by kernel_rfl) (by kernel_rfl) (by kernel_rfl) (by kernel_rfl) (fun _ _ _ h => h) (Or.inl ⟨by rfl, ?_⟩) hHeld ?_
          rotate_left
          · (intro w hSw; (try dsimp only at hSw); go_simp <;> with_reducible rfl)
          try simp only [Act.put, List.setIfInBounds_toArray, List.set_cons_zero, List.set_cons_succ]
          -- 6: t104 := load 3 t103 : 3
          refine wpB_take (i := 6) (v := ?_) (get_of_drop rfl) (by kernel_rfl) (by kernel_rfl) (by kernel_rfl) (by kernel_rfl) (fun _ _ _ h => h) (Or.inl ⟨by rfl, ?_⟩) hHeld ?_
          rotate_left
          · (intro w hSw; (try dsimp only at hSw); go_simp <;> with_reducible rfl)
          try simp only [Act.put, List.setIfInBounds_toArray, List.set_cons_zero, List.set_cons_succ]
          -- 7: t105 := binOp BinOp.eql 3 t99 t104 3 : 4
          refine wpB_take (i := 7) (v := ?_) (get_of_drop rfl) (by kernel_rfl) (by kernel_rfl) (by kernel_rfl) (by kernel_rfl) (fun _ _ _ h => h) (Or.inl ⟨by rfl, ?_⟩) hHeld ?_
          rotate_left
          · (intro w hSw; (try dsimp only at hSw); go_simp <;> with_reducible rfl)
          try simp only [Act.put, List.setIfInBounds_toArray, List.set_cons_zero, List.set_cons_succ]
          -- 8: t106 := move t105 : 4
          refine wpB_take (i := 8) (v := ?_) (get_of_drop rfl) (by kernel_rfl) (by kernel_rfl) (by kernel_rfl) (by kernel_rfl) (fun _ _ _ h => h) (Or.inl ⟨by rfl, ?_⟩) hHeld ?_
          rotate_left
          · (intro w hSw; (try dsimp only at hSw); go_simp <;> with_reducible rfl)
          try simp only [Act.put, List.setIfInBounds_toArray, List.set_cons_zero, List.set_cons_succ]
          -- 9: t107 := move t0 : 30   [if ⟨8, true⟩]
          refine wpB_take (i := 9) (v := ?_) (get_of_drop rfl) (by kernel_rfl) (by kernel_rfl) (by kernel_rfl) (by kernel_rfl) (fun _ _ _ h => h) (Or.inl ⟨by rfl, ?_⟩) hHeld ?_
          rotate_left
          · (intro w hSw; (try dsimp only at hSw); go_simp <;> with_reducible rfl)
          try simp only [Act.put, List.setIfInBounds_toArray, List.set_cons_zero, List.set_cons_succ]
          -- 10: t108 := nilCheck t107 : 0   [if ⟨8, true⟩]
          refine wpB_take (i := 10) (v := ?_) (get_of_drop rfl) (by kernel_rfl) (by kernel_rfl) (by kernel_rfl) (by kernel_rfl) (fun _ _ _ h => h) (Or.inl ⟨by rfl, ?_⟩) hHeld ?_
          rotate_left
          · (intro w hSw; (try dsimp only at hSw); go_simp <;> with_reducible rfl)
          try simp only [Act.put, List.setIfInBounds_toArray, List.set_cons_zero, List.set_cons_succ]
          -- 11: t109 := fieldAddr 100 t108 2 : 0   [if ⟨8, true⟩]
          refine wpB_take (i := 11) (v := ?_) (get_of_drop rfl) (by kernel_rfl) (by kernel_rfl) (by kernel_rfl) (by kernel_rfl) (fun _ _ _ h => h) (Or.inl ⟨by rfl, ?_⟩) hHeld ?_
          rotate_left
          · (intro w hSw; (try dsimp only at hSw); go_simp <;> with_reducible rfl)
          try simp only [Act.put, List.setIfInBounds_toArray, List.set_cons_zero, List.set_cons_succ]
          -- 12: t110 := load 4 t109 : 4   [if ⟨8, true⟩]
          refine wpB_take (i := 12) (v := ?_) (get_of_drop rfl) (by kernel_rfl) (by kernel_rfl) (by kernel_rfl) (by kernel_rfl) (fun _ _ _ h => h) (Or.inl ⟨by rfl, ?_⟩) hHeld ?_
          rotate_left
          · (intro w hSw; (try dsimp only at hSw); go_simp <;> with_reducible rfl)
          try simp only [Act.put, List.setIfInBounds_toArray, List.set_cons_zero, List.set_cons_succ]
          -- 13: t111 := unOp UnOp.not 4 t110 : 4   [if ⟨8, true⟩]
          refine wpB_take (i := 13) (v := ?_) (get_of_drop rfl) (by kernel_rfl) (by kernel_rfl) (by kernel_rfl) (by kernel_rfl) (fun _ _ _ h => h) (Or.inl ⟨by rfl, ?_⟩) hHeld ?_
          rotate_left
          · (intro w hSw; (try dsimp only at hSw); go_simp <;> with_reducible rfl)
          try simp only [Act.put, List.setIfInBounds_toArray, List.set_cons_zero, List.set_cons_succ]
          -- 14: t112 := pick t106 t111 #false : 4
          refine wpB_take (i := 14) (v := ?_) (get_of_drop rfl) (by kernel_rfl) (by kernel_rfl) (by kernel_rfl) (by kernel_rfl) (fun _ _ _ h => h) (Or.inl ⟨by rfl, ?_⟩) hHeld ?_
          rotate_left
          · (intro w hSw; (try dsimp only at hSw); go_simp <;> with_reducible rfl)
          try simp only [Act.put, List.setIfInBounds_toArray, List.set_cons_zero, List.set_cons_succ]
          refine wpB_done (by kernel_rfl) ?_ _
          obtain ⟨wm, hdn⟩ : ∃ q_, q_ = wn.drew := ⟨_, rfl⟩
          rw [← hdn]
          replace K := hid (show Chg (fun _ => False) w wm by rw [hdn]; exact K.out.drew)
          replace H := hid (show Rep w wm p b1 b2 b3 X r A n c (.slice none 0 0) by rw [hdn]; exact H.out.far ((Chg.refl (fun _ => False) wn).drew))
          replace BX := hid (show wm.heap[b]? = some (.cells #[.int .i64 m.kind, .int .i64 m.view, .int .i64 m.src, .int .i64 m.dst, .int .i64 m.op, .int .i64 m.commit, .int .i64 m.normal, .slice B k d] 41 (0, 0)) by rw [hdn]; exact blk_drew BX.out)
          replace HM := hid (show Ty.At entryK wm (fun j => R j ∧ j < w.heap.size) B k d m.log by rw [hdn]; exact HM.out.chg ((Chg.refl (fun _ => False) wn).drew) (fun _ _ h => h))
          replace BP := hid H.out.blk
          clear hdn hHeld
          clear U_8 U_3 X_1 hv2
          have H2 := hid H.out
          have K2 := hid (show Chg (fun j => M4 p b1 b2 b3 j ∨ (Value.slice none 0 0).ownBlock = some j) wm wm from Chg.refl _ _)
          go_wp2_with fail
          refine (sent_any H2.out).mono ?_
          rintro e' w9 ⟨rfl, h9, hv9, k9⟩
          have H9 := hid h9
          have HV9 := hid hv9
          have K9 := hid k9
          clear h9 hv9 k9
          go_wp2_with fail
          go_ret2
          have e1 : deliverR r m = (r, 0) := by rw [HDL.out]; unfold heardR; rw [if_neg (fun h => by rcases h with h | h <;> exact absurd (HKD.out.symm.trans h) (by decide))]; rw [if_neg (fun h => absurd (HKD.out.symm.trans h) (by decide))]; rw [if_neg (fun h => by rcases h with h | h <;> exact absurd (HKD.out.symm.trans h) (by decide))]; rw [if_neg (fun h => absurd (HKD.out.symm.trans h) (by decide))]; rw [if_pos HKD.out]; rw [if_neg (fun h => by rw [HCH.out] at h; exact absurd h.2 (by decide))]
          rw [e1]
          refine ⟨_, rfl, ⟨_, _, _, H9.out⟩, HV9.out, no_own ?_⟩
          exact ((K.out.mono (S' := fun j => M4 p b1 b2 b3 j ∨ (Value.slice none 0 0).ownBlock = some j) (fun _ h _ => h.elim)).trans K2.out (fun j hj _ => hj)).trans K9.out (fun j hj _ => .inl (.inl hj))
      · have hv2 : (m.view == r.s.view) = false := by simp [hv]
        have HV := hid (show ¬ m.view = r.s.view from hv)
        clear hv
        refine wpB_start (fun wx : World => Chg (fun _ => False) wn wx) (by kernel_rfl) ?_
        have hHeld : (fun wx : World => Chg (fun _ => False) wn wx) _ := (Chg.refl (fun _ => False) wn).drew
        -- 0: t98 := fieldAddr 41 t3 1 : 0
        refine wpB_take (i := 0) (v := ?_) (get_of_drop rfl) (by kernel_rfl) (by kernel_rfl) (by kernel_rfl) (by kernel_rfl) (fun _ _ _ h => h) (Or.inl ⟨by rfl, ?_⟩) hHeld ?_
        rotate_left
        · (intro w hSw; (try dsimp only at hSw); go_simp <;> with_reducible rfl)
        try simp only [Act.put, List.setIfInBounds_toArray, List.set_cons_zero, List.set_cons_succ]
        -- 1: t99 := load 3 t98 : 3
        refine wpB_take (i := 1) (v := ?_) (get_of_drop rfl) (by kernel_rfl) (by kernel_rfl) (by kernel_rfl) (by kernel_rfl) (fun _ _ _ h => h) (Or.inl ⟨by rfl, ?_⟩) hHeld ?_
        rotate_left
        · (intro w hSw; (try dsimp only at hSw); go_simp <;> with_reducible rfl)
        try simp only [Act.put, List.setIfInBounds_toArray, List.set_cons_zero, List.set_cons_succ]
        -- 2: t100 := move t0 : 30
        refine wpB_take (i := 2) (v := ?_) (get_of_drop rfl) (by kernel_rfl) (by kernel_rfl) (by kernel_rfl) (by kernel_rfl) (fun _ _ _ h => h) (Or.inl ⟨by rfl, ?_⟩) hHeld ?_
        rotate_left
        · (intro w hSw; (try dsimp only at hSw); go_simp <;> with_reducible rfl)
        try simp only [Act.put, List.setIfInBounds_toArray, List.set_cons_zero, List.set_cons_succ]
        -- 3: t101 := nilCheck t100 : 0
        refine wpB_take (i := 3) (v := ?_) (get_of_drop rfl) (by kernel_rfl) (by kernel_rfl) (by kernel_rfl) (by kernel_rfl) (fun _ _ _ h => h) (Or.inl ⟨by rfl, ?_⟩) hHeld ?_
        rotate_left
        · (intro w hSw; (try dsimp only at hSw); go_simp <;> with_reducible rfl)
        try simp only [Act.put, List.setIfInBounds_toArray, List.set_cons_zero, List.set_cons_succ]
        -- 4: t102 := fieldAddr 100 t101 1 : 0
        refine wpB_take (i := 4) (v := ?_) (get_of_drop rfl) (by kernel_rfl) (by kernel_rfl) (by kernel_rfl) (by kernel_rfl) (fun _ _ _ h => h) (Or.inl ⟨by rfl, ?_⟩) hHeld ?_
        rotate_left
        · (intro w hSw; (try dsimp only at hSw); go_simp <;> with_reducible rfl)
        try simp only [Act.put, List.setIfInBounds_toArray, List.set_cons_zero, List.set_cons_succ]
        -- 5: t103 := fieldAddr 26 t102 0 : 0
        refine wpB_take (i := 5) (v := ?_) (get_of_drop rfl) (by kernel_rfl) (by kernel_rfl) (by kernel_rfl) (by kernel_rfl) (fun _ _ _ h => h) (Or.inl ⟨by rfl, ?_⟩) hHeld ?_
        rotate_left
        · (intro w hSw; (try dsimp only at hSw); go_simp <;> with_reducible rfl)
        try simp only [Act.put, List.setIfInBounds_toArray, List.set_cons_zero, List.set_cons_succ]
        -- 6: t104 := load 3 t103 : 3
        refine wpB_take (i := 6) (v := ?_) (get_of_drop rfl) (by kernel_rfl) (by kernel_rfl) (by kernel_rfl) (by kernel_rfl) (fun _ _ _ h => h) (Or.inl ⟨by rfl, ?_⟩) hHeld ?_
        rotate_left
        · (intro w hSw; (try dsimp only at hSw); go_simp <;> with_reducible rfl)
        try simp only [Act.put, List.setIfInBounds_toArray, List.set_cons_zero, List.set_cons_succ]
        -- 7: t105 := binOp BinOp.eql 3 t99 t104 3 : 4
        refine wpB_take (i := 7) (v := ?_) (get_of_drop rfl) (by kernel_rfl) (by kernel_rfl) (by kernel_rfl) (by kernel_rfl) (fun _ _ _ h => h) (Or.inl ⟨by rfl, ?_⟩) hHeld ?_
        rotate_left
        · (intro w hSw; (try dsimp only at hSw); go_simp <;> with_reducible rfl)
        try simp only [Act.put, List.setIfInBounds_toArray, List.set_cons_zero, List.set_cons_succ]
        -- 8: t106 := move t105 : 4
        refine wpB_take (i := 8) (v := ?_) (get_of_drop rfl) (by kernel_rfl) (by kernel_rfl) (by kernel_rfl) (by kernel_rfl) (fun _ _ _ h => h) (Or.inl ⟨by rfl, ?_⟩) hHeld ?_
        rotate_left
        · (intro w hSw; (try dsimp only at hSw); go_simp <;> with_reducible rfl)
        try simp only [Act.put, List.setIfInBounds_toArray, List.set_cons_zero, List.set_cons_succ]
        -- 9: t107 := move t0 : 30   [if ⟨8, true⟩]
        refine wpB_take (i := 9) (v := undef) (get_of_drop rfl) (by kernel_rfl) (by kernel_rfl) (by kernel_rfl) (by kernel_rfl) (fun _ _ _ h => h) (Or.inr ⟨by rfl, rfl⟩) hHeld ?_
        try simp only [Act.put, List.setIfInBounds_toArray, List.set_cons_zero, List.set_cons_succ]
        -- 10: t108 := nilCheck t107 : 0   [if ⟨8, true⟩]
        refine wpB_take (i := 10) (v := undef) (get_of_drop rfl) (by kernel_rfl) (by kernel_rfl) (by kernel_rfl) (by kernel_rfl) (fun _ _ _ h => h) (Or.inr ⟨by rfl, rfl⟩) hHeld ?_
        try simp only [Act.put, List.setIfInBounds_toArray, List.set_cons_zero, List.set_cons_succ]
        -- 11: t109 := fieldAddr 100 t108 2 : 0   [if ⟨8, true⟩]
        refine wpB_take (i := 11) (v := undef) (get_of_drop rfl) (by kernel_rfl) (by kernel_rfl) (by kernel_rfl) (by kernel_rfl) (fun _ _ _ h => h) (Or.inr ⟨by rfl, rfl⟩) hHeld ?_
        try simp only [Act.put, List.setIfInBounds_toArray, List.set_cons_zero, List.set_cons_succ]
        -- 12: t110 := load 4 t109 : 4   [if ⟨8, true⟩]
        refine wpB_take (i := 12) (v := undef) (get_of_drop rfl) (by kernel_rfl) (by kernel_rfl) (by kernel_rfl) (by kernel_rfl) (fun _ _ _ h => h) (Or.inr ⟨by rfl, rfl⟩) hHeld ?_
        try simp only [Act.put, List.setIfInBounds_toArray, List.set_cons_zero, List.set_cons_succ]
        -- 13: t111 := unOp UnOp.not 4 t110 : 4   [if ⟨8, true⟩]
        refine wpB_take (i := 13) (v := undef) (get_of_drop rfl) (by kernel_rfl) (by kernel_rfl) (by kernel_rfl) (by kernel_rfl) (fun _ _ _ h => h) (Or.inr ⟨by rfl, rfl⟩) hHeld ?_
        try simp only [Act.put, List.setIfInBounds_toArray, List.set_cons_zero, List.set_cons_succ]
        -- 14: t112 := pick t106 t111 #false : 4
        refine wpB_take (i := 14) (v := ?_) (get_of_drop rfl) (by kernel_rfl) (by kernel_rfl) (by kernel_rfl) (by kernel_rfl) (fun _ _ _ h => h) (Or.inl ⟨by rfl, ?_⟩) hHeld ?_
        rotate_left
        · (intro w hSw; (try dsimp only at hSw); go_simp <;> with_reducible rfl)
        try simp only [Act.put, List.setIfInBounds_toArray, List.set_cons_zero, List.set_cons_succ]
        refine wpB_done (by kernel_rfl) ?_ _
        obtain ⟨wm, hdn⟩ : ∃ q_, q_ = wn.drew := ⟨_, rfl⟩
        rw [← hdn]
        replace K := hid (show Chg (fun _ => False) w wm by rw [hdn]; exact K.out.drew)
        replace H := hid (show Rep w wm p b1 b2 b3 X r A n c (.slice none 0 0) by rw [hdn]; exact H.out.far ((Chg.refl (fun _ => False) wn).drew))
        replace BX := hid (show wm.heap[b]? = some (.cells #[.int .i64 m.kind, .int .i64 m.view, .int .i64 m.src, .int .i64 m.dst, .int .i64 m.op, .int .i64 m.commit, .int .i64 m.normal, .slice B k d] 41 (0, 0)) by rw [hdn]; exact blk_drew BX.out)
        replace HM := hid (show Ty.At entryK wm (fun j => R j ∧ j < w.heap.size) B k d m.log by rw [hdn]; exact HM.out.chg ((Chg.refl (fun _ => False) wn).drew) (fun _ _ h => h))
        replace BP := hid H.out.blk
        clear hdn hHeld
        clear U_3 X_1 hv2
        have H2 := hid H.out
        have K2 := hid (show Chg (fun j => M4 p b1 b2 b3 j ∨ (Value.slice none 0 0).ownBlock = some j) wm wm from Chg.refl _ _)
        go_wp2_with fail
        refine (sent_any H2.out).mono ?_
        rintro e' w9 ⟨rfl, h9, hv9, k9⟩
        have H9 := hid h9
        have HV9 := hid hv9
        have K9 := hid k9
        clear h9 hv9 k9
        go_wp2_with fail
        go_ret2
        have e1 : deliverR r m = (r, 0) := by rw [HDL.out]; unfold heardR; rw [if_neg (fun h => by rcases h with h | h <;> exact absurd (HKD.out.symm.trans h) (by decide))]; rw [if_neg (fun h => absurd (HKD.out.symm.trans h) (by decide))]; rw [if_neg (fun h => by rcases h with h | h <;> exact absurd (HKD.out.symm.trans h) (by decide))]; rw [if_neg (fun h => absurd (HKD.out.symm.trans h) (by decide))]; rw [if_pos HKD.out]; rw [if_neg (fun h => HV.out h.1)]
        rw [e1]
        refine ⟨_, rfl, ⟨_, _, _, H9.out⟩, HV9.out, no_own ?_⟩
        exact ((K.out.mono (S' := fun j => M4 p b1 b2 b3 j ∨ (Value.slice none 0 0).ownBlock = some j) (fun _ h _ => h.elim)).trans K2.out (fun j hj _ => hj)).trans K9.out (fun j hj _ => .inl (.inl hj))
    · have HKD := hid hk
      clear hk
      have X_K : wn.cell? ⟨b, 0, none⟩ = some (.int .i64 8) := by rw [← HKD.out]; exact (cellAt BX.out 0).trans rfl
      go_wp2_with fail
      clear X_K
      have X_1 : ∀ wx, Chg (fun _ => False) wn wx → wx.cell? ⟨b, 1, none⟩ = some (.int .i64 m.view) := fun wx hx => (cellAt (hx.blk BX.out (fun h => h)) 1).trans rfl
      have X_7 : ∀ wx, Chg (fun _ => False) wn wx → wx.cell? ⟨b, 7, none⟩ = some (.slice B k d) := fun wx hx => (cellAt (hx.blk BX.out (fun h => h)) 7).trans rfl
      have U_1 : ∀ wx, Chg (fun _ => False) wn wx → wx.cell? ⟨p, 1, none⟩ = some (.int .i64 r.id) := fun wx hx => (cellAt (hx.blk BP.out (fun h => h)) 1).trans rfl
      by_cases hp : primR r m.view = r.id
      · have hp2 : (primR r m.view != r.id) = false := by simp [hp]
        have HP := hid hp
        clear hp
        refine wpB_start (fun wx : World => Chg (fun _ => False) wn wx) (by kernel_rfl) ?_
        have hHeld : (fun wx : World => Chg (fun _ => False) wn wx) _ := (Chg.refl (fun _ => False) wn).drew
        -- 0: t121 := move t0 : 30
        refine wpB_take (i := 0) (v := ?_) (get_of_drop rfl) (by kernel_rfl) (by kernel_rfl) (by kernel_rfl) (by kernel_rfl) (fun _ _ _ h => h) (Or.inl ⟨by rfl, ?_⟩) hHeld ?_
        rotate_left
        · (intro w hSw; (try dsimp only at hSw); go_simp <;> with_reducible rfl)
        try simp only [Act.put, List.setIfInBounds_toArray, List.set_cons_zero, List.set_cons_succ]
        -- 1: t122 := fieldAddr 41 t3 1 : 0
        refine wpB_take (i := 1) (v := ?_) (get_of_drop rfl) (by kernel_rfl) (by kernel_rfl) (by kernel_rfl) (by kernel_rfl) (fun _ _ _ h => h) (Or.inl ⟨by rfl, ?_⟩) hHeld ?_
        rotate_left
        · (intro w hSw; (try dsimp only at hSw); go_simp <;> with_reducible rfl)
        try simp only [Act.put, List.setIfInBounds_toArray, List.set_cons_zero, List.set_cons_succ]
        -- 2: t123 := load 3 t122 : 3
        refine wpB_take (i := 2) (v := ?_) (get_of_drop rfl) (by kernel_rfl) (by kernel_rfl) (by kernel_rfl) (by kernel_rfl) (fun _ _ _ h => h) (Or.inl ⟨by rfl, ?_⟩) hHeld ?_
        rotate_left
        · (intro w hSw; (try dsimp only at hSw); go_simp <;> with_reducible rfl)
        try simp only [Act.put, List.setIfInBounds_toArray, List.set_cons_zero, List.set_cons_succ]
        -- 4: t125 := move t0 : 30
        refine wpB_take (i := 4) (v := ?_) (get_of_drop rfl) (by kernel_rfl) (by kernel_rfl) (by kernel_rfl) (by kernel_rfl) (fun _ _ _ h => h) (Or.inl ⟨by rfl, ?_⟩) hHeld ?_
        rotate_left
        · (intro w hSw; (try dsimp only at hSw); go_simp <;> with_reducible rfl)
        try simp only [Act.put, List.setIfInBounds_toArray, List.set_cons_zero, List.set_cons_succ]
        -- 5: t126 := nilCheck t125 : 0
        refine wpB_take (i := 5) (v := ?_) (get_of_drop rfl) (by kernel_rfl) (by kernel_rfl) (by kernel_rfl) (by kernel_rfl) (fun _ _ _ h => h) (Or.inl ⟨by rfl, ?_⟩) hHeld ?_
        rotate_left
        · (intro w hSw; (try dsimp only at hSw); go_simp <;> with_reducible rfl)
        try simp only [Act.put, List.setIfInBounds_toArray, List.set_cons_zero, List.set_cons_succ]
        -- 6: t127 := fieldAddr 100 t126 0 : 0
        refine wpB_take (i := 6) (v := ?_) (get_of_drop rfl) (by kernel_rfl) (by kernel_rfl) (by kernel_rfl) (by kernel_rfl) (fun _ _ _ h => h) (Or.inl ⟨by rfl, ?_⟩) hHeld ?_
        rotate_left
        · (intro w hSw; (try dsimp only at hSw); go_simp <;> with_reducible rfl)
        try simp only [Act.put, List.setIfInBounds_toArray, List.set_cons_zero, List.set_cons_succ]
        -- 7: t128 := fieldAddr 23 t127 1 : 0
        refine wpB_take (i := 7) (v := ?_) (get_of_drop rfl) (by kernel_rfl) (by kernel_rfl) (by kernel_rfl) (by kernel_rfl) (fun _ _ _ h => h) (Or.inl ⟨by rfl, ?_⟩) hHeld ?_
        rotate_left
        · (intro w hSw; (try dsimp only at hSw); go_simp <;> with_reducible rfl)
        try simp only [Act.put, List.setIfInBounds_toArray, List.set_cons_zero, List.set_cons_succ]
        -- 8: t129 := load 3 t128 : 3
        refine wpB_take (i := 8) (v := ?_) (get_of_drop rfl) (by kernel_rfl) (by kernel_rfl) (by kernel_rfl) (by kernel_rfl) (fun _ _ _ h => h) (Or.inl ⟨by rfl, ?_⟩) hHeld ?_
        rotate_left
        · (intro w hSw; (try dsimp only at hSw); go_simp <;> with_reducible rfl)
        try simp only [Act.put, List.setIfInBounds_toArray, List.set_cons_zero, List.set_cons_succ]
        -- 3: t124 := CALL fn48(t121, t123) : 3
        refine wpB_act (i := 3) (by kernel_rfl) (get_of_drop rfl) (fun K hK => ?_)
        go_simp
        refine (prim_any (H.out.far hHeld) HOK.out.cfg.1 (msgR_num HMR.out).2.1).mono ?_
        rintro e' wy ⟨rfl, rfl⟩
        refine hK.out _ _ ?_ (fun hHeld2 => ?_)
        · first | assumption | exact Chg.alloc hHeld _
        clear hHeld hK K
        have hHeld := hHeld2
        clear hHeld2
        try simp only [Act.put, List.setIfInBounds_toArray, List.set_cons_zero, List.set_cons_succ]
        -- 9: t130 := binOp BinOp.neq 3 t124 t129 3 : 4
        refine wpB_take (i := 9) (v := ?_) (get_of_drop rfl) (by kernel_rfl) (by kernel_rfl) (by kernel_rfl) (by kernel_rfl) (fun _ _ _ h => h) (Or.inl ⟨by rfl, ?_⟩) hHeld ?_
        rotate_left
        · (intro w hSw; (try dsimp only at hSw); go_simp <;> with_reducible rfl)
        try simp only [Act.put, List.setIfInBounds_toArray, List.set_cons_zero, List.set_cons_succ]
        -- 10: t131 := move t130 : 4
        refine wpB_take (i := 10) (v := ?_) (get_of_drop rfl) (by kernel_rfl) (by kernel_rfl) (by kernel_rfl) (by kernel_rfl) (fun _ _ _ h => h) (Or.inl ⟨by rfl, ?_⟩) hHeld ?_
        rotate_left
        · (intro w hSw; (try dsimp only at hSw); go_simp <;> with_reducible rfl)
        try simp only [Act.put, List.setIfInBounds_toArray, List.set_cons_zero, List.set_cons_succ]
        -- 11: t132 := move t6 : 4   [if ⟨10, true⟩]
        refine wpB_take (i := 11) (v := undef) (get_of_drop rfl) (by kernel_rfl) (by kernel_rfl) (by kernel_rfl) (by kernel_rfl) (fun _ _ _ h => h) (Or.inr ⟨by rfl, rfl⟩) hHeld ?_
        try simp only [Act.put, List.setIfInBounds_toArray, List.set_cons_zero, List.set_cons_succ]
        -- 12: t133 := move t132 : 4   [if ⟨10, true⟩]
        refine wpB_take (i := 12) (v := undef) (get_of_drop rfl) (by kernel_rfl) (by kernel_rfl) (by kernel_rfl) (by kernel_rfl) (fun _ _ _ h => h) (Or.inr ⟨by rfl, rfl⟩) hHeld ?_
        try simp only [Act.put, List.setIfInBounds_toArray, List.set_cons_zero, List.set_cons_succ]
        -- 13: t134 := move t0 : 30   [if ⟨12, false⟩]
        refine wpB_take (i := 13) (v := undef) (get_of_drop rfl) (by kernel_rfl) (by kernel_rfl) (by kernel_rfl) (by kernel_rfl) (fun _ _ _ h => h) (Or.inr ⟨by rfl, rfl⟩) hHeld ?_
        try simp only [Act.put, List.setIfInBounds_toArray, List.set_cons_zero, List.set_cons_succ]
        -- 14: t135 := fieldAddr 41 t3 7 : 0   [if ⟨12, false⟩]
        refine wpB_take (i := 14) (v := undef) (get_of_drop rfl) (by kernel_rfl) (by kernel_rfl) (by kernel_rfl) (by kernel_rfl) (fun _ _ _ h => h) (Or.inr ⟨by rfl, rfl⟩) hHeld ?_
        try simp only [Act.put, List.setIfInBounds_toArray, List.set_cons_zero, List.set_cons_succ]
        -- 15: t136 := load 24 t135 : 24   [if ⟨12, false⟩]
        refine wpB_take (i := 15) (v := undef) (get_of_drop rfl) (by kernel_rfl) (by kernel_rfl) (by kernel_rfl) (by kernel_rfl) (fun _ _ _ h => h) (Or.inr ⟨by rfl, rfl⟩) hHeld ?_
        try simp only [Act.put, List.setIfInBounds_toArray, List.set_cons_zero, List.set_cons_succ]
        -- 16: t137 := CALL fn55(t134, t136) : 4   [if ⟨12, false⟩]
        refine wpB_take (i := 16) (v := undef) (get_of_drop rfl) (by kernel_rfl) (by kernel_rfl) (by kernel_rfl) (by kernel_rfl) (fun _ _ _ h => h) (Or.inr ⟨by rfl, rfl⟩) hHeld ?_
        try simp only [Act.put, List.setIfInBounds_toArray, List.set_cons_zero, List.set_cons_succ]
        -- 17: t138 := pick t133 #true t137 : 4   [if ⟨10, true⟩]
        refine wpB_take (i := 17) (v := undef) (get_of_drop rfl) (by kernel_rfl) (by kernel_rfl) (by kernel_rfl) (by kernel_rfl) (fun _ _ _ h => h) (Or.inr ⟨by rfl, rfl⟩) hHeld ?_
        try simp only [Act.put, List.setIfInBounds_toArray, List.set_cons_zero, List.set_cons_succ]
        -- 18: t139 := pick t131 t138 #false : 4
        refine wpB_take (i := 18) (v := ?_) (get_of_drop rfl) (by kernel_rfl) (by kernel_rfl) (by kernel_rfl) (by kernel_rfl) (fun _ _ _ h => h) (Or.inl ⟨by rfl, ?_⟩) hHeld ?_
        rotate_left
        · (intro w hSw; (try dsimp only at hSw); go_simp <;> with_reducible rfl)
        try simp only [Act.put, List.setIfInBounds_toArray, List.set_cons_zero, List.set_cons_succ]
        refine wpB_done (by kernel_rfl) ?_ _
        obtain ⟨wm, hdn⟩ : ∃ q_, q_ = wn.drew := ⟨_, rfl⟩
        rw [← hdn]
        replace K := hid (show Chg (fun _ => False) w wm by rw [hdn]; exact K.out.drew)
        replace H := hid (show Rep w wm p b1 b2 b3 X r A n c (.slice none 0 0) by rw [hdn]; exact H.out.far ((Chg.refl (fun _ => False) wn).drew))
        replace BX := hid (show wm.heap[b]? = some (.cells #[.int .i64 m.kind, .int .i64 m.view, .int .i64 m.src, .int .i64 m.dst, .int .i64 m.op, .int .i64 m.commit, .int .i64 m.normal, .slice B k d] 41 (0, 0)) by rw [hdn]; exact blk_drew BX.out)
        replace HM := hid (show Ty.At entryK wm (fun j => R j ∧ j < w.heap.size) B k d m.log by rw [hdn]; exact HM.out.chg ((Chg.refl (fun _ => False) wn).drew) (fun _ _ h => h))
        replace BP := hid H.out.blk
        clear hdn hHeld
        clear U_1 X_1 X_7 hp2
        have H2 := hid H.out
        have K2 := hid (show Chg (fun j => M4 p b1 b2 b3 j ∨ (Value.slice none 0 0).ownBlock = some j) wm wm from Chg.refl _ _)
        go_wp2_with fail
        refine (sent_any H2.out).mono ?_
        rintro e' w9 ⟨rfl, h9, hv9, k9⟩
        have H9 := hid h9
        have HV9 := hid hv9
        have K9 := hid k9
        clear h9 hv9 k9
        go_wp2_with fail
        go_ret2
        have e1 : deliverR r m = (r, 0) := by rw [HDL.out]; unfold heardR; rw [if_neg (fun h => by rcases h with h | h <;> exact absurd (HKD.out.symm.trans h) (by decide))]; rw [if_neg (fun h => absurd (HKD.out.symm.trans h) (by decide))]; rw [if_neg (fun h => by rcases h with h | h <;> exact absurd (HKD.out.symm.trans h) (by decide))]; rw [if_neg (fun h => absurd (HKD.out.symm.trans h) (by decide))]; rw [if_neg (fun h => absurd (HKD.out.symm.trans h) (by decide))]; rw [if_pos HKD.out]; rw [if_neg (fun h => h.1 HP.out)]
        rw [e1]
        refine ⟨_, rfl, ⟨_, _, _, H9.out⟩, HV9.out, no_own ?_⟩
        exact ((K.out.mono (S' := fun j => M4 p b1 b2 b3 j ∨ (Value.slice none 0 0).ownBlock = some j) (fun _ h _ => h.elim)).trans K2.out (fun j hj _ => hj)).trans K9.out (fun j hj _ => .inl (.inl hj))
      · have hp2 : (primR r m.view != r.id) = true := by simp [hp]
        have HP := hid (show primR r m.view ≠ r.id from hp)
        clear hp
        cases hnw : newerR r m
        · have HNW := hid hnw
          clear hnw
          refine wpB_start (fun wx : World => Chg (fun _ => False) wn wx) (by kernel_rfl) ?_
          have hHeld : (fun wx : World => Chg (fun _ => False) wn wx) _ := (Chg.refl (fun _ => False) wn).drew
          -- 0: t121 := move t0 : 30
          refine wpB_take (i := 0) (v := ?_) (get_of_drop rfl) (by kernel_rfl) (by kernel_rfl) (by kernel_rfl) (by kernel_rfl) (fun _ _ _ h => h) (Or.inl ⟨by rfl, ?_⟩) hHeld ?_
          rotate_left
          · (intro w hSw; (try dsimp only at hSw); go_simp <;> with_reducible rfl)
          try simp only [Act.put, List.setIfInBounds_toArray, List.set_cons_zero, List.set_cons_succ]
          -- 1: t122 := fieldAddr 41 t3 1 : 0
          refine wpB_take (i := 1) (v := ?_) (get_of_drop rfl) (by kernel_rfl) (by kernel_rfl) (by kernel_rfl) (by kernel_rfl) (fun _ _ _ h => h) (Or.inl ⟨by rfl, ?_⟩) hHeld ?_
          rotate_left
          · (intro w hSw; (try dsimp only at hSw); go_simp <;> with_reducible rfl)
          try simp only [Act.put, List.setIfInBounds_toArray, List.set_cons_zero, List.set_cons_succ]
          -- 2: t123 := load 3 t122 : 3
          refine wpB_take (i := 2) (v := ?_) (get_of_drop rfl) (by kernel_rfl) (by kernel_rfl) (by kernel_rfl) (by kernel_rfl) (fun _ _ _ h => h) (Or.inl ⟨by rfl, ?_⟩) hHeld ?_
          rotate_left
          · (intro w hSw; (try dsimp only at hSw); go_simp <;> with_reducible rfl)
          try simp only [Act.put, List.setIfInBounds_toArray, List.set_cons_zero, List.set_cons_succ]
          -- 4: t125 := move t0 : 30
          refine wpB_take (i := 4) (v := ?_) (get_of_drop rfl) (by kernel_rfl) (by kernel_rfl) (by kernel_rfl) (by kernel_rfl) (fun _ _ _ h => h) (Or.inl ⟨by rfl, ?_⟩) hHeld ?_
          rotate_left
          · (intro w hSw; (try dsimp only at hSw); go_simp <;> with_reducible rfl)
          try simp only [Act.put, List.setIfInBounds_toArray, List.set_cons_zero, List.set_cons_succ]
          -- 5: t126 := nilCheck t125 : 0
          refine wpB_take (i := 5) (v := ?_) (get_of_drop rfl) (by kernel_rfl) (by kernel_rfl) (by kernel_rfl) (by kernel_rfl) (fun _ _ _ h => h) (Or.inl ⟨by rfl, ?_⟩) hHeld ?_
          rotate_left
          · (intro w hSw; (try dsimp only at hSw); go_simp <;> with_reducible rfl)
          try simp only [Act.put, List.setIfInBounds_toArray, List.set_cons_zero, List.set_cons_succ]
          -- 6: t127 := fieldAddr 100 t126 0 : 0
          refine wpB_take (i := 6) (v := ?_) (get_of_drop rfl) (by kernel_rfl) (by kernel_rfl) (by kernel_rfl) (by kernel_rfl) (fun _ _ _ h => h) (Or.inl ⟨by rfl, ?_⟩) hHeld ?_
          rotate_left
          · (intro w hSw; (try dsimp only at hSw); go_simp <;> with_reducible rfl)
          try simp only [Act.put, List.setIfInBounds_toArray, List.set_cons_zero, List.set_cons_succ]
          -- 7: t128 := fieldAddr 23 t127 1 : 0
          refine wpB_take (i := 7) (v := ?_) (get_of_drop rfl) (by kernel_rfl) (by kernel_rfl) (by kernel_rfl) (by kernel_rfl) (fun _ _ _ h => h) (Or.inl ⟨by rfl, ?_⟩) hHeld ?_
          rotate_left
          · (intro w hSw; (try dsimp only at hSw); go_simp <;> with_reducible rfl)
          try simp only [Act.put, List.setIfInBounds_toArray, List.set_cons_zero, List.set_cons_succ]
          -- 8: t129 := load 3 t128 : 3
          refine wpB_take (i := 8) (v := ?_) (get_of_drop rfl) (by kernel_rfl) (by kernel_rfl) (by kernel_rfl) (by kernel_rfl) (fun _ _ _ h => h) (Or.inl ⟨by rfl, ?_⟩) hHeld ?_
          rotate_left
          · (intro w hSw; (try dsimp only at hSw); go_simp <;> with_reducible rfl)
          try simp only [Act.put, List.setIfInBounds_toArray, List.set_cons_zero, List.set_cons_succ]
          -- 3: t124 := CALL fn48(t121, t123) : 3
          refine wpB_act (i := 3) (by kernel_rfl) (get_of_drop rfl) (fun K hK => ?_)
          go_simp
          refine (prim_any (H.out.far hHeld) HOK.out.cfg.1 (msgR_num HMR.out).2.1).mono ?_
          rintro e' wy ⟨rfl, rfl⟩
          refine hK.out _ _ ?_ (fun hHeld2 => ?_)
          · first | assumption | exact HW.out
          clear hHeld hK K
          have hHeld := hHeld2
          clear hHeld2
          try simp only [Act.put, List.setIfInBounds_toArray, List.set_cons_zero, List.set_cons_succ]
          -- 9: t130 := binOp BinOp.neq 3 t124 t129 3 : 4
          refine wpB_take (i := 9) (v := ?_) (get_of_drop rfl) (by kernel_rfl) (by kernel_rfl) (by kernel_rfl) (by kernel_rfl) (fun _ _ _ h => h) (Or.inl ⟨by rfl, ?_⟩) hHeld ?_
          rotate_left
          · (intro w hSw; (try dsimp only at hSw); go_simp <;> with_reducible rfl)
          try simp only [Act.put, List.setIfInBounds_toArray, List.set_cons_zero, List.set_cons_succ]
          -- 10: t131 := move t130 : 4
          refine wpB_take (i := 10) (v := ?_) (get_of_drop rfl) (by kernel_rfl) (by kernel_rfl) (by kernel_rfl) (by kernel_rfl) (fun _ _ _ h => h) (Or.inl ⟨by rfl, ?_⟩) hHeld ?_
          rotate_left
          · (intro w hSw; (try dsimp only at hSw); go_simp <;> with_reducible rfl)
          try simp only [Act.put, List.setIfInBounds_toArray, List.set_cons_zero, List.set_cons_succ]
          -- 11: t132 := move t6 : 4   [if ⟨10, true⟩]
          refine wpB_take (i := 11) (v := ?_) (get_of_drop rfl) (by kernel_rfl) (by kernel_rfl) (by kernel_rfl) (by kernel_rfl) (fun _ _ _ h => h) (Or.inl ⟨by rfl, ?_⟩) hHeld ?_
          rotate_left
          · (intro w hSw; (try dsimp only at hSw); go_simp <;> with_reducible rfl)
          try simp only [Act.put, List.setIfInBounds_toArray, List.set_cons_zero, List.set_cons_succ]
          -- 12: t133 := move t132 : 4   [if ⟨10, true⟩]
          refine wpB_take (i := 12) (v := ?_) (get_of_drop rfl) (by kernel_rfl) (by kernel_rfl) (by kernel_rfl) (by kernel_rfl) (fun _ _ _ h => h) (Or.inl ⟨by rfl, ?_⟩) hHeld ?_
          rotate_left
          · (intro w hSw; (try dsimp only at hSw); go_simp <;> with_reducible rfl)
          try simp only [Act.put, List.setIfInBounds_toArray, List.set_cons_zero, List.set_cons_succ]
          -- 13: t134 := move t0 : 30   [if ⟨12, false⟩]
          refine wpB_take (i := 13) (v := ?_) (get_of_drop rfl) (by kernel_rfl) (by kernel_rfl) (by kernel_rfl) (by kernel_rfl) (fun _ _ _ h => h) (Or.inl ⟨by rfl, ?_⟩) hHeld ?_
          rotate_left
          · (intro w hSw; (try dsimp only at hSw); go_simp <;> with_reducible rfl)
          try simp only [Act.put, List.setIfInBounds_toArray, List.set_cons_zero, List.set_cons_succ]
          -- 14: t135 := fieldAddr 41 t3 7 : 0   [if ⟨12, false⟩]
          refine wpB_take (i := 14) (v := ?_) (get_of_drop rfl) (by kernel_rfl) (by kernel_rfl) (by kernel_rfl) (by kernel_rfl) (fun _ _ _ h => h) (Or.inl ⟨by rfl, ?_⟩) hHeld ?_
          rotate_left
          · (intro w hSw; (try dsimp only at hSw); go_simp <;> with_reducible rfl)
          try simp only [Act.put, List.setIfInBounds_toArray, List.set_cons_zero, List.set_cons_succ]
          -- 15: t136 := load 24 t135 : 24   [if ⟨12, false⟩]
          refine wpB_take (i := 15) (v := ?_) (get_of_drop rfl) (by kernel_rfl) (by kernel_rfl) (by kernel_rfl) (by kernel_rfl) (fun _ _ _ h => h) (Or.inl ⟨by rfl, ?_⟩) hHeld ?_
          rotate_left
          · (intro w hSw; (try dsimp only at hSw); go_simp <;> with_reducible rfl)
          try simp only [Act.put, List.setIfInBounds_toArray, List.set_cons_zero, List.set_cons_succ]
          -- 16: t137 := CALL fn55(t134, t136) : 4   [if ⟨12, false⟩]
          refine wpB_act (i := 16) (by kernel_rfl) (get_of_drop rfl) (fun K hK => ?_)
          go_simp
          refine (extends_any (H.out.far hHeld) (HM.out.chg hHeld (fun _ _ h => h)) HN.out).mono ?_
          rintro e' wy ⟨rfl, hwy⟩
          have HW := hid (show Chg (fun _ => False) wn wy from hHeld.trans hwy (fun _ h _ => h))
          refine hK.out _ _ ?_ (fun hHeld2 => ?_)
          · first | assumption | exact HW.out
          clear hHeld hK K
          have hHeld := hHeld2
          clear hHeld2
          try simp only [Act.put, List.setIfInBounds_toArray, List.set_cons_zero, List.set_cons_succ]
          -- 17: t138 := pick t133 #true t137 : 4   [if ⟨10, true⟩]
          refine wpB_take (i := 17) (v := ?_) (get_of_drop rfl) (by kernel_rfl) (by kernel_rfl) (by kernel_rfl) (by kernel_rfl) (fun _ _ _ h => h) (Or.inl ⟨by rfl, ?_⟩) hHeld ?_
          rotate_left
          · (intro w hSw; (try dsimp only at hSw); go_simp <;> with_reducible rfl)
          try simp only [Act.put, List.setIfInBounds_toArray, List.set_cons_zero, List.set_cons_succ]
          -- 18: t139 := pick t131 t138 #false : 4
          refine wpB_take (i := 18) (v := ?_) (get_of_drop rfl) (by kernel_rfl) (by kernel_rfl) (by kernel_rfl) (by kernel_rfl) (fun _ _ _ h => h) (Or.inl ⟨by rfl, ?_⟩) hHeld ?_
          rotate_left
          · (intro w hSw; (try dsimp only at hSw); go_simp <;> with_reducible rfl)
          try simp only [Act.put, List.setIfInBounds_toArray, List.set_cons_zero, List.set_cons_succ]
          refine wpB_done (by kernel_rfl) ?_ _
          clear U_1 X_1 X_7 hp2
          obtain ⟨wm, hdn⟩ : ∃ q_, q_ = wy := ⟨_, rfl⟩
          rw [← hdn]
          replace K := hid (show Chg (fun _ => False) w wm by rw [hdn]; exact K.out.trans HW.out (fun _ h _ => h))
          replace H := hid (show Rep w wm p b1 b2 b3 X r A n c (.slice none 0 0) by rw [hdn]; exact H.out.far HW.out)
          replace BX := hid (show wm.heap[b]? = some (.cells #[.int .i64 m.kind, .int .i64 m.view, .int .i64 m.src, .int .i64 m.dst, .int .i64 m.op, .int .i64 m.commit, .int .i64 m.normal, .slice B k d] 41 (0, 0)) by rw [hdn]; exact HW.out.blk BX.out (fun h => h))
          replace HM := hid (show Ty.At entryK wm (fun j => R j ∧ j < w.heap.size) B k d m.log by rw [hdn]; exact HM.out.chg HW.out (fun _ _ h => h))
          replace BP := hid H.out.blk
          clear hdn hHeld
          cases hx : extendsR r m.log
          · have HX := hid hx
            clear hx
            have H2 := hid H.out
            have K2 := hid (show Chg (fun j => M4 p b1 b2 b3 j ∨ (Value.slice none 0 0).ownBlock = some j) wm wm from Chg.refl _ _)
            go_wp2_with fail
            refine (sent_any H2.out).mono ?_
            rintro e' w9 ⟨rfl, h9, hv9, k9⟩
            have H9 := hid h9
            have HV9 := hid hv9
            have K9 := hid k9
            clear h9 hv9 k9
            go_wp2_with fail
            go_ret2
            have e1 : deliverR r m = (r, 0) := by rw [HDL.out]; unfold heardR; rw [if_neg (fun h => by rcases h with h | h <;> exact absurd (HKD.out.symm.trans h) (by decide))]; rw [if_neg (fun h => absurd (HKD.out.symm.trans h) (by decide))]; rw [if_neg (fun h => by rcases h with h | h <;> exact absurd (HKD.out.symm.trans h) (by decide))]; rw [if_neg (fun h => absurd (HKD.out.symm.trans h) (by decide))]; rw [if_neg (fun h => absurd (HKD.out.symm.trans h) (by decide))]; rw [if_pos HKD.out]; rw [if_neg (fun h => by rcases h.2 with h | h; exact absurd (HNW.out.symm.trans h) (by decide); exact absurd (HX.out.symm.trans h) (by decide))]
            rw [e1]
            refine ⟨_, rfl, ⟨_, _, _, H9.out⟩, HV9.out, no_own ?_⟩
            exact ((K.out.mono (S' := fun j => M4 p b1 b2 b3 j ∨ (Value.slice none 0 0).ownBlock = some j) (fun _ h _ => h.elim)).trans K2.out (fun j hj _ => hj)).trans K9.out (fun j hj _ => .inl (.inl hj))
          · have HX := hid hx
            clear hx
            have X_0 : wm.cell? ⟨b, 0, none⟩ = some (.int .i64 m.kind) := (cellAt BX.out 0).trans rfl
            have X_1 : wm.cell? ⟨b, 1, none⟩ = some (.int .i64 m.view) := (cellAt BX.out 1).trans rfl
            have X_2 : wm.cell? ⟨b, 2, none⟩ = some (.int .i64 m.src) := (cellAt BX.out 2).trans rfl
            have X_3 : wm.cell? ⟨b, 3, none⟩ = some (.int .i64 m.dst) := (cellAt BX.out 3).trans rfl
            have X_4 : wm.cell? ⟨b, 4, none⟩ = some (.int .i64 m.op) := (cellAt BX.out 4).trans rfl
            have X_5 : wm.cell? ⟨b, 5, none⟩ = some (.int .i64 m.commit) := (cellAt BX.out 5).trans rfl
            have X_6 : wm.cell? ⟨b, 6, none⟩ = some (.int .i64 m.normal) := (cellAt BX.out 6).trans rfl
            have X_7 : wm.cell? ⟨b, 7, none⟩ = some (.slice B k d) := (cellAt BX.out 7).trans rfl
            go_wp2_with fail
            clear X_0 X_1 X_2 X_3 X_4 X_5 X_6 X_7
            refine (take_any H.out HM.out HOK.out HMR.out (by rw [HO.out]; decide)).mono ?_
            rintro e' we ⟨A', n', c', O', rfl, he, hoe, ke⟩
            have H2 := hid he
            have K2 := hid ke
            clear he hoe ke
            go_wp2_with fail
            refine (sent_any H2.out).mono ?_
            rintro e' w9 ⟨rfl, h9, hv9, k9⟩
            have H9 := hid h9
            have HV9 := hid hv9
            have K9 := hid k9
            clear h9 hv9 k9
            go_wp2_with fail
            go_ret2
            have e1 : deliverR r m = (takeR r m, 0) := by rw [HDL.out]; unfold heardR; rw [if_neg (fun h => by rcases h with h | h <;> exact absurd (HKD.out.symm.trans h) (by decide))]; rw [if_neg (fun h => absurd (HKD.out.symm.trans h) (by decide))]; rw [if_neg (fun h => by rcases h with h | h <;> exact absurd (HKD.out.symm.trans h) (by decide))]; rw [if_neg (fun h => absurd (HKD.out.symm.trans h) (by decide))]; rw [if_neg (fun h => absurd (HKD.out.symm.trans h) (by decide))]; rw [if_pos HKD.out]; rw [if_pos ⟨HP.out, .inr HX.out⟩]
            rw [e1]
            refine ⟨_, rfl, ⟨_, _, _, H9.out⟩, HV9.out, no_own ?_⟩
            exact ((K.out.mono (S' := fun j => M4 p b1 b2 b3 j ∨ (Value.slice none 0 0).ownBlock = some j) (fun _ h _ => h.elim)).trans K2.out (fun j hj _ => hj)).trans K9.out (fun j hj _ => .inl (.inl hj))
        · have HNW := hid hnw
          clear hnw
          refine wpB_start (fun wx : World => Chg (fun _ => False) wn wx) (by kernel_rfl) ?_
          have hHeld : (fun wx : World => Chg (fun _ => False) wn wx) _ := (Chg.refl (fun _ => False) wn).drew
          -- 0: t121 := move t0 : 30
          refine wpB_take (i := 0) (v := ?_) (get_of_drop rfl) (by kernel_rfl) (by kernel_rfl) (by kernel_rfl) (by kernel_rfl) (fun _ _ _ h => h) (Or.inl ⟨by rfl, ?_⟩) hHeld ?_
          rotate_left
          · (intro w hSw; (try dsimp only at hSw); go_simp <;> with_reducible rfl)
          try simp only [Act.put, List.setIfInBounds_toArray, List.set_cons_zero, List.set_cons_succ]
          -- 1: t122 := fieldAddr 41 t3 1 : 0
          refine wpB_take (i := 1) (v := ?_) (get_of_drop rfl) (by kernel_rfl) (by kernel_rfl) (by kernel_rfl) (by kernel_rfl) (fun _ _ _ h => h) (Or.inl ⟨by rfl, ?_⟩) hHeld ?_
          rotate_left
          · (intro w hSw; (try dsimp only at hSw); go_simp <;> with_reducible rfl)
          try simp only [Act.put, List.setIfInBounds_toArray, List.set_cons_zero, List.set_cons_succ]
          -- 2: t123 := load 3 t122 : 3
          refine wpB_take (i := 2) (v := ?_) (get_of_drop rfl) (by kernel_rfl) (by kernel_rfl) (by kernel_rfl) (by kernel_rfl) (fun _ _ _ h => h) (Or.inl ⟨by rfl, ?_⟩) hHeld ?_
          rotate_left
          · (intro w hSw; (try dsimp only at hSw); go_simp <;> with_reducible rfl)
          try simp only [Act.put, List.setIfInBounds_toArray, List.set_cons_zero, List.set_cons_succ]
          -- 4: t125 := move t0 : 30
          refine wpB_take (i := 4) (v := ?_) (get_of_drop rfl) (by kernel_rfl) (by kernel_rfl) (by kernel_rfl) (by kernel_rfl) (fun _ _ _ h => h) (Or.inl ⟨by rfl, ?_⟩) hHeld ?_
          rotate_left
          · (intro w hSw; (try dsimp only at hSw); go_simp <;> with_reducible rfl)
          try simp only [Act.put, List.setIfInBounds_toArray, List.set_cons_zero, List.set_cons_succ]
          -- 5: t126 := nilCheck t125 : 0
          refine wpB_take (i := 5) (v := ?_) (get_of_drop rfl) (by kernel_rfl) (by kernel_rfl) (by kernel_rfl) (by kernel_rfl) (fun _ _ _ h => h) (Or.inl ⟨by rfl, ?_⟩) hHeld ?_
          rotate_left
          · (intro w hSw; (try dsimp only at hSw); go_simp <;> with_reducible rfl)
          try simp only [Act.put, List.setIfInBounds_toArray, List.set_cons_zero, List.set_cons_succ]
          -- 6: t127 := fieldAddr 100 t126 0 : 0
          refine wpB_take (i := 6) (v := ?_) (get_of_drop rfl) (by kernel_rfl) (by kernel_rfl) (by kernel_rfl) (by kernel_rfl) (fun _ _ _ h => h) (Or.inl ⟨by rfl, ?_⟩) hHeld ?_
          rotate_left
          · (intro w hSw; (try dsimp only at hSw); go_simp <;> with_reducible rfl)
          try simp only [Act.put, List.setIfInBounds_toArray, List.set_cons_zero, List.set_cons_succ]
          -- 7: t128 := fieldAddr 23 t127 1 : 0
          refine wpB_take (i := 7) (v := ?_) (get_of_drop rfl) (by kernel_rfl) (by kernel_rfl) (by kernel_rfl) (by kernel_rfl) (fun _ _ _ h => h) (Or.inl ⟨by rfl, ?_⟩) hHeld ?_
          rotate_left
          · (intro w hSw; (try dsimp only at hSw); go_simp <;> with_reducible rfl)
          try simp only [Act.put, List.setIfInBounds_toArray, List.set_cons_zero, List.set_cons_succ]
          -- 8: t129 := load 3 t128 : 3
          refine wpB_take (i := 8) (v := ?_) (get_of_drop rfl) (by kernel_rfl) (by kernel_rfl) (by kernel_rfl) (by kernel_rfl) (fun _ _ _ h => h) (Or.inl ⟨by rfl, ?_⟩) hHeld ?_
          rotate_left
          · (intro w hSw; (try dsimp only at hSw); go_simp <;> with_reducible rfl)
          try simp only [Act.put, List.setIfInBounds_toArray, List.set_cons_zero, List.set_cons_succ]
          -- 3: t124 := CALL fn48(t121, t123) : 3
          refine wpB_act (i := 3) (by kernel_rfl) (get_of_drop rfl) (fun K hK => ?_)
          go_simp
          refine (prim_any (H.out.far hHeld) HOK.out.cfg.1 (msgR_num HMR.out).2.1).mono ?_
          rintro e' wy ⟨rfl, rfl⟩
          refine hK.out _ _ ?_ (fun hHeld2 => ?_)
          · first | assumption | exact Chg.alloc hHeld _
          clear hHeld hK K
          have hHeld := hHeld2
          clear hHeld2
          try simp only [Act.put, List.setIfInBounds_toArray, List.set_cons_zero, List.set_cons_succ]
          -- 9: t130 := binOp BinOp.neq 3 t124 t129 3 : 4
          refine wpB_take (i := 9) (v := ?_) (get_of_drop rfl) (by kernel_rfl) (by kernel_rfl) (by kernel_rfl) (by kernel_rfl) (fun _ _ _ h => h) (Or.inl ⟨by rfl, ?_⟩) hHeld ?_
          rotate_left
          · (intro w hSw; (try dsimp only at hSw); go_simp <;> with_reducible rfl)
          try simp only [Act.put, List.setIfInBounds_toArray, List.set_cons_zero, List.set_cons_succ]
          -- 10: t131 := move t130 : 4
          refine wpB_take (i := 10) (v := ?_) (get_of_drop rfl) (by kernel_rfl) (by kernel_rfl) (by kernel_rfl) (by kernel_rfl) (fun _ _ _ h => h) (Or.inl ⟨by rfl, ?_⟩) hHeld ?_
          rotate_left
          · (intro w hSw; (try dsimp only at hSw); go_simp <;> with_reducible rfl)
          try simp only [Act.put, List.setIfInBounds_toArray, List.set_cons_zero, List.set_cons_succ]
          -- 11: t132 := move t6 : 4   [if ⟨10, true⟩]
          refine wpB_take (i := 11) (v := ?_) (get_of_drop rfl) (by kernel_rfl) (by kernel_rfl) (by kernel_rfl) (by kernel_rfl) (fun _ _ _ h => h) (Or.inl ⟨by rfl, ?_⟩) hHeld ?_
          rotate_left
          · (intro w hSw; (try dsimp only at hSw); go_simp <;> with_reducible rfl)
          try simp only [Act.put, List.setIfInBounds_toArray, List.set_cons_zero, List.set_cons_succ]
          -- 12: t133 := move t132 : 4   [if ⟨10, true⟩]
          refine wpB_take (i := 12) (v := ?_) (get_of_drop rfl) (by kernel_rfl) (by kernel_rfl) (by kernel_rfl) (by kernel_rfl) (fun _ _ _ h => h) (Or.inl ⟨by rfl, ?_⟩) hHeld ?_
          rotate_left
          · (intro w hSw; (try dsimp only at hSw); go_simp <;> with_reducible rfl)
          try simp only [Act.put, List.setIfInBounds_toArray, List.set_cons_zero, List.set_cons_succ]
          -- 13: t134 := move t0 : 30   [if ⟨12, false⟩]
          refine wpB_take (i := 13) (v := undef) (get_of_drop rfl) (by kernel_rfl) (by kernel_rfl) (by kernel_rfl) (by kernel_rfl) (fun _ _ _ h => h) (Or.inr ⟨by rfl, rfl⟩) hHeld ?_
          try simp only [Act.put, List.setIfInBounds_toArray, List.set_cons_zero, List.set_cons_succ]
          -- 14: t135 := fieldAddr 41 t3 7 : 0   [if ⟨12, false⟩]
          refine wpB_take (i := 14) (v := undef) (get_of_drop rfl) (by kernel_rfl) (by kernel_rfl) (by kernel_rfl) (by kernel_rfl) (fun _ _ _ h => h) (Or.inr ⟨by rfl, rfl⟩) hHeld ?_
          try simp only [Act.put, List.setIfInBounds_toArray, List.set_cons_zero, List.set_cons_succ]
          -- 15: t136 := load 24 t135 : 24   [if ⟨12, false⟩]
          refine wpB_take (i := 15) (v := undef) (get_of_drop rfl) (by kernel_rfl) (by kernel_rfl) (by kernel_rfl) (by kernel_rfl) (fun _ _ _ h => h) (Or.inr ⟨by rfl, rfl⟩) hHeld ?_
          try simp only [Act.put, List.setIfInBounds_toArray, List.set_cons_zero, List.set_cons_succ]
          -- 16: t137 := CALL fn55(t134, t136) : 4   [if ⟨12, false⟩]
          refine wpB_take (i := 16) (v := undef) (get_of_drop rfl) (by kernel_rfl) (by kernel_rfl) (by kernel_rfl) (by kernel_rfl) (fun _ _ _ h => h) (Or.inr ⟨by rfl, rfl⟩) hHeld ?_
          try simp only [Act.put, List.setIfInBounds_toArray, List.set_cons_zero, List.set_cons_succ]
          -- 17: t138 := pick t133 #true t137 : 4   [if ⟨10, true⟩]
          refine wpB_take (i := 17) (v := ?_) (get_of_drop rfl) (by kernel_rfl) (by kernel_rfl) (by kernel_rfl) (by kernel_rfl) (fun _ _ _ h => h) (Or.inl ⟨by rfl, ?_⟩) hHeld ?_
          rotate_left
          · (intro w hSw; (try dsimp only at hSw); go_simp <;> with_reducible rfl)
          try simp only [Act.put, List.setIfInBounds_toArray, List.set_cons_zero, List.set_cons_succ]
          -- 18: t139 := pick t131 t138 #false : 4
          refine wpB_take (i := 18) (v := ?_) (get_of_drop rfl) (by kernel_rfl) (by kernel_rfl) (by kernel_rfl) (by kernel_rfl) (fun _ _ _ h => h) (Or.inl ⟨by rfl, ?_⟩) hHeld ?_
          rotate_left
          · (intro w hSw; (try dsimp only at hSw); go_simp <;> with_reducible rfl)
          try simp only [Act.put, List.setIfInBounds_toArray, List.set_cons_zero, List.set_cons_succ]
          refine wpB_done (by kernel_rfl) ?_ _
          obtain ⟨wm, hdn⟩ : ∃ q_, q_ = wn.drew := ⟨_, rfl⟩
          rw [← hdn]
          replace K := hid (show Chg (fun _ => False) w wm by rw [hdn]; exact K.out.drew)
          replace H := hid (show Rep w wm p b1 b2 b3 X r A n c (.slice none 0 0) by rw [hdn]; exact H.out.far ((Chg.refl (fun _ => False) wn).drew))
          replace BX := hid (show wm.heap[b]? = some (.cells #[.int .i64 m.kind, .int .i64 m.view, .int .i64 m.src, .int .i64 m.dst, .int .i64 m.op, .int .i64 m.commit, .int .i64 m.normal, .slice B k d] 41 (0, 0)) by rw [hdn]; exact blk_drew BX.out)
          replace HM := hid (show Ty.At entryK wm (fun j => R j ∧ j < w.heap.size) B k d m.log by rw [hdn]; exact HM.out.chg ((Chg.refl (fun _ => False) wn).drew) (fun _ _ h => h))
          replace BP := hid H.out.blk
          clear hdn hHeld
          clear U_1 X_1 X_7 hp2
          have X_0 : wm.cell? ⟨b, 0, none⟩ = some (.int .i64 m.kind) := (cellAt BX.out 0).trans rfl
          have X_1 : wm.cell? ⟨b, 1, none⟩ = some (.int .i64 m.view) := (cellAt BX.out 1).trans rfl
          have X_2 : wm.cell? ⟨b, 2, none⟩ = some (.int .i64 m.src) := (cellAt BX.out 2).trans rfl
          have X_3 : wm.cell? ⟨b, 3, none⟩ = some (.int .i64 m.dst) := (cellAt BX.out 3).trans rfl
          have X_4 : wm.cell? ⟨b, 4, none⟩ = some (.int .i64 m.op) := (cellAt BX.out 4).trans rfl
          have X_5 : wm.cell? ⟨b, 5, none⟩ = some (.int .i64 m.commit) := (cellAt BX.out 5).trans rfl
          have X_6 : wm.cell? ⟨b, 6, none⟩ = some (.int .i64 m.normal) := (cellAt BX.out 6).trans rfl
          have X_7 : wm.cell? ⟨b, 7, none⟩ = some (.slice B k d) := (cellAt BX.out 7).trans rfl
          go_wp2_with fail
          clear X_0 X_1 X_2 X_3 X_4 X_5 X_6 X_7
          refine (take_any H.out HM.out HOK.out HMR.out (by rw [HO.out]; decide)).mono ?_
          rintro e' we ⟨A', n', c', O', rfl, he, hoe, ke⟩
          have H2 := hid he
          have K2 := hid ke
          clear he hoe ke
          go_wp2_with fail
          refine (sent_any H2.out).mono ?_
          rintro e' w9 ⟨rfl, h9, hv9, k9⟩
          have H9 := hid h9
          have HV9 := hid hv9
          have K9 := hid k9
          clear h9 hv9 k9
          go_wp2_with fail
          go_ret2
          have e1 : deliverR r m = (takeR r m, 0) := by rw [HDL.out]; unfold heardR; rw [if_neg (fun h => by rcases h with h | h <;> exact absurd (HKD.out.symm.trans h) (by decide))]; rw [if_neg (fun h => absurd (HKD.out.symm.trans h) (by decide))]; rw [if_neg (fun h => by rcases h with h | h <;> exact absurd (HKD.out.symm.trans h) (by decide))]; rw [if_neg (fun h => absurd (HKD.out.symm.trans h) (by decide))]; rw [if_neg (fun h => absurd (HKD.out.symm.trans h) (by decide))]; rw [if_pos HKD.out]; rw [if_pos ⟨HP.out, .inl HNW.out⟩]
          rw [e1]
          refine ⟨_, rfl, ⟨_, _, _, H9.out⟩, HV9.out, no_own ?_⟩
          exact ((K.out.mono (S' := fun j => M4 p b1 b2 b3 j ∨ (Value.slice none 0 0).ownBlock = some j) (fun _ h _ => h.elim)).trans K2.out (fun j hj _ => hj)).trans K9.out (fun j hj _ => .inl (.inl hj))
end Go.Proofs.Ytaldoajdhbndhaa.Pa


/- State. -/

namespace Go.Proofs.Ytaldoajdhbndhaa.Pa

set_option linter.unusedVariables false

set_option linter.unusedSimpArgs false

open Go.RowKit Go.Proofs.Ytaldoajdhbndhaa.C

attribute [local go_sem] max2_int min2_int max_two min_two

set_option maxHeartbeats 4000000 in
set_option maxRecDepth 100000 in
theorem rstate_any {v0 w : World} {p b1 b2 b3 : Nat} {X : Nat → Prop} {r : Rp} {A : Option Addr} {n c : Nat} {O : Value} (h : Rep v0 w p b1 b2 b3 X r A n c O) (hok : RpOk r) :
    Calls Try.prog 15 #[.pointer (some ⟨p, 0, none⟩)] w (StateTo r.s w) := by
  obtain ⟨b2, hb2⟩ : ∃ q_, q_ = w.heap.size + 1 := ⟨_, rfl⟩
  obtain ⟨w0, hw0⟩ : ∃ q_, q_ = ((w.alloc (.cells #[.int .i64 0, .int .i64 0, .int .i64 0, .int .i64 0, .slice none 0 0] 26)).alloc (.cells #[.int .i64 r.s.view, .int .i64 r.s.normal, .int .i64 r.s.commit, .int .i64 r.s.active, .slice A n c] 26)) := ⟨_, rfl⟩
  have C0 := hid (show Chg (fun _ => False) w w0 by rw [hw0]; exact ((Chg.refl _ w).alloc _).alloc _)
  have BR := hid (show w0.heap[w.heap.size]? = some (.cells #[.int .i64 0, .int .i64 0, .int .i64 0, .int .i64 0, .slice none 0 0] 26 (0, 0)) by
    rw [hw0]
    refine blk_alloc ?_ _
    have := blk_new w (.cells #[.int .i64 0, .int .i64 0, .int .i64 0, .int .i64 0, .slice none 0 0] 26)
    simpa using this)
  have BS := hid (show w0.heap[b2]? = some (.cells #[.int .i64 r.s.view, .int .i64 r.s.normal, .int .i64 r.s.commit, .int .i64 r.s.active, .slice A n c] 26 (0, 0)) by
    rw [hw0, hb2]
    have := blk_new (w.alloc (.cells #[.int .i64 0, .int .i64 0, .int .i64 0, .int .i64 0, .slice none 0 0] 26)) (.cells #[.int .i64 r.s.view, .int .i64 r.s.normal, .int .i64 r.s.commit, .int .i64 r.s.active, .slice A n c] 26)
    simpa using this)
  have ne01 : w.heap.size ≠ b2 := by omega
  have ne10 : b2 ≠ w.heap.size := by omega
  have Hb2 := hid hb2
  have ltb2 : w.heap.size < b2 := by omega
  have SZ := hid (show w0.heap.size = w.heap.size + 2 by rw [hw0]; simp)
  have H0 := hid (h.far C0.out)
  have HL := hid H0.out.log
  have HOK := hid hok
  have hpw := lt_of_blk h.blk
  have hp1 : p ≠ w.heap.size := by omega
  have hp2 : p ≠ b2 := by omega
  have P_3 : w.cell? ⟨p, 3, none⟩ = some (.int .i64 r.s.view) := (cellAt h.blk 3).trans rfl
  have P_4 : w.cell? ⟨p, 4, none⟩ = some (.int .i64 r.s.normal) := (cellAt h.blk 4).trans rfl
  have P_5 : w.cell? ⟨p, 5, none⟩ = some (.int .i64 r.s.commit) := (cellAt h.blk 5).trans rfl
  have P_6 : w.cell? ⟨p, 6, none⟩ = some (.int .i64 r.s.active) := (cellAt h.blk 6).trans rfl
  have P_7 : w.cell? ⟨p, 7, none⟩ = some (.slice A n c) := (cellAt h.blk 7).trans rfl
  clear h hok
  go_enter Try.func15, Try.ntmps15
  go_wp2_with fail
  rw [← hb2, ← hw0]
  clear hw0 hb2
  clear P_3 P_4 P_5 P_6 P_7
  refine (rcopied_any HL.out (by have h1 := HOK.out.stn.2.2.1; have h2 := HL.out.1; omega) (fits_right HOK.out.stn.2.2.2.2.2)).mono ?_
  rintro e w2 ⟨A2, c2, rfl, hvt, h2⟩
  have hat : Ty.At entryK w2 (fun j => w0.heap.size ≤ j ∧ j < w2.heap.size) A2 n c2 r.s.log := hvt.at.bound.mono (fun j hj => ⟨by rcases hj.1 with h | h <;> exact h, hj.2⟩)
  clear hvt
  have C2 := hid (C0.out.trans h2 (fun _ h _ => h))
  have H2 := hid hat
  have Z2 := hid (show w0.heap.size ≤ w2.heap.size from h2.size)
  replace BR := hid ((h2).blk BR.out (fun h => h))
  replace BS := hid ((h2).blk BS.out (fun h => h))
  clear h2 hat
  have S_0 : w2.cell? ⟨b2, 0, none⟩ = some (.int .i64 r.s.view) := (cellAt BS.out 0).trans rfl
  have S_f0 : w2.frozen? ⟨b2, 0, none⟩ = false := freeAt BS.out 0
  have S_1 : w2.cell? ⟨b2, 1, none⟩ = some (.int .i64 r.s.normal) := (cellAt BS.out 1).trans rfl
  have S_f1 : w2.frozen? ⟨b2, 1, none⟩ = false := freeAt BS.out 1
  have S_2 : w2.cell? ⟨b2, 2, none⟩ = some (.int .i64 r.s.commit) := (cellAt BS.out 2).trans rfl
  have S_f2 : w2.frozen? ⟨b2, 2, none⟩ = false := freeAt BS.out 2
  have S_3 : w2.cell? ⟨b2, 3, none⟩ = some (.int .i64 r.s.active) := (cellAt BS.out 3).trans rfl
  have S_f3 : w2.frozen? ⟨b2, 3, none⟩ = false := freeAt BS.out 3
  have S_4 : w2.cell? ⟨b2, 4, none⟩ = some (.slice A n c) := (cellAt BS.out 4).trans rfl
  have S_f4 : w2.frozen? ⟨b2, 4, none⟩ = false := freeAt BS.out 4
  have R_0 : w2.cell? ⟨w.heap.size, 0, none⟩ = some (.int .i64 0) := (cellAt BR.out 0).trans rfl
  have R_f0 : w2.frozen? ⟨w.heap.size, 0, none⟩ = false := freeAt BR.out 0
  have R_1 : w2.cell? ⟨w.heap.size, 1, none⟩ = some (.int .i64 0) := (cellAt BR.out 1).trans rfl
  have R_f1 : w2.frozen? ⟨w.heap.size, 1, none⟩ = false := freeAt BR.out 1
  have R_2 : w2.cell? ⟨w.heap.size, 2, none⟩ = some (.int .i64 0) := (cellAt BR.out 2).trans rfl
  have R_f2 : w2.frozen? ⟨w.heap.size, 2, none⟩ = false := freeAt BR.out 2
  have R_3 : w2.cell? ⟨w.heap.size, 3, none⟩ = some (.int .i64 0) := (cellAt BR.out 3).trans rfl
  have R_f3 : w2.frozen? ⟨w.heap.size, 3, none⟩ = false := freeAt BR.out 3
  have R_4 : w2.cell? ⟨w.heap.size, 4, none⟩ = some (.slice none 0 0) := (cellAt BR.out 4).trans rfl
  have R_f4 : w2.frozen? ⟨w.heap.size, 4, none⟩ = false := freeAt BR.out 4
  obtain ⟨W2, hW2⟩ : ∃ W2, W2 = w2.setCell ⟨b2, 4, none⟩ (.slice A2 n c2) := ⟨_, rfl⟩
  have D2 := hid (show Chg (fun k => k = b2) w2 W2 by rw [hW2]; exact (Chg.refl (fun k => k = b2) w2).set (fun _ => rfl) _)
  have HW2 := hid hW2
  clear hW2
  go_wp2_with fail
  rw [← HW2.out]
  clear HW2
  clear S_0 S_f0 S_1 S_f1 S_2 S_f2 S_3 S_f3 S_4 S_f4 R_0 R_f0 R_1 R_f1 R_2 R_f2 R_3 R_f3 R_4 R_f4
  replace BR := hid (D2.out.blk BR.out (by omega))
  obtain ⟨PB, PC⟩ := put_blk [(.int .i64 r.s.view : Value), .int .i64 r.s.normal, .int .i64 r.s.commit, .int .i64 r.s.active, .slice A2 n c2] W2 _ BR.out rfl
  generalize hW : (((((W2.setCell ⟨w.heap.size, 0, none⟩ (.int .i64 r.s.view)).setCell ⟨w.heap.size, 1, none⟩ (.int .i64 r.s.normal)).setCell ⟨w.heap.size, 2, none⟩ (.int .i64 r.s.commit)).setCell ⟨w.heap.size, 3, none⟩ (.int .i64 r.s.active)).setCell ⟨w.heap.size, 4, none⟩ (.slice A2 n c2)) = W
  have BR2 := hid (show W.heap[w.heap.size]? = some (.cells #[.int .i64 r.s.view, .int .i64 r.s.normal, .int .i64 r.s.commit, .int .i64 r.s.active, .slice A2 n c2] 26 (0, 0)) by rw [← hW]; exact PB)
  have CW := hid (show Chg (fun k => k = w.heap.size) W2 W by rw [← hW]; exact PC)
  clear PB PC hW
  have z0 : W.cell? ⟨w.heap.size, 0, none⟩ = some (.int .i64 r.s.view) := (cellAt BR2.out 0).trans rfl
  have z1 : W.cell? ⟨w.heap.size, 1, none⟩ = some (.int .i64 r.s.normal) := (cellAt BR2.out 1).trans rfl
  have z2 : W.cell? ⟨w.heap.size, 2, none⟩ = some (.int .i64 r.s.commit) := (cellAt BR2.out 2).trans rfl
  have z3 : W.cell? ⟨w.heap.size, 3, none⟩ = some (.int .i64 r.s.active) := (cellAt BR2.out 3).trans rfl
  have z4 : W.cell? ⟨w.heap.size, 4, none⟩ = some (.slice A2 n c2) := (cellAt BR2.out 4).trans rfl
  refine bodyPost_ret (v := .agg #[.int .i64 r.s.view, .int .i64 r.s.normal, .int .i64 r.s.commit, .int .i64 r.s.active, .slice A2 n c2]) (by simp [results, Try.results15, go_sem, z0, z1, z2, z3, z4]) rfl ?_
  have HE : Ty.At entryK W (fun k => w.heap.size ≤ k ∧ k < W.heap.size) A2 n c2 r.s.log := by
    have z := SZ.out
    have z2 := Z2.out
    have hb := Hb2.out
    refine ((H2.out.chg D2.out (fun j hj e => by have := hj.1; omega)).chg CW.out (fun j hj e => by have := hj.1; omega)).mono (fun j hj => ⟨by have := hj.1; omega, Nat.lt_of_lt_of_le hj.2 (Nat.le_trans D2.out.size CW.out.size)⟩)
  exact ⟨A2, n, c2, rfl, HE, (C2.out.trans D2.out (fun j hj hl => by have := Hb2.out; omega)).trans CW.out (fun j hj hl => by omega)⟩
end Go.Proofs.Ytaldoajdhbndhaa.Pa
