/- The walk of the law PackRecords. -/
import Derived.Test.YtcmfgijdelaelaaPackAn
import Derived.Test.YtcmfgijdelaelaaTypesP
namespace Go.Proofs.Ytcmfgijdelaelaa.Pa
set_option linter.unusedVariables false
set_option linter.unusedSimpArgs false
open Go.RowKit Go.Proofs.Ytcmfgijdelaelaa.C
attribute [local go_sem] max2_int min2_int max_two min_two

theorem flat_most {α : Type} {f : α → List UInt8} {K : Nat} : ∀ {l : List α}, (∀ x ∈ l, (f x).length ≤ K) → (l.flatMap f).length ≤ K * l.length
  | [], _ => Nat.zero_le _
  | x :: l, h => by
    rw [List.flatMap_cons, List.length_append, List.length_cons, Nat.mul_succ]
    have h1 := h x List.mem_cons_self
    have h2 := flat_most (l := l) (fun y hy => h y (List.mem_cons_of_mem _ hy))
    omega
theorem entryB_most {e : Entry} (h : entryR e = true) : (entryB e).length ≤ 6000 := by
  unfold entryR at h
  simp only [Bool.and_eq_true, decide_eq_true_eq, List.all_eq_true] at h
  have h1 := flat_most (f := ruleB) (K := 286) (l := e.put) (fun r hr => by have := of_decide_eq_true (h.1.2 r hr); rw [ruleB_len]; omega)
  have h2 := h.1.1.1.2
  have h3 := h.1.1.2
  have h4 : 286 * e.put.length ≤ 286 * 16 := Nat.mul_le_mul_left _ h2
  unfold entryB
  simp only [List.length_append, num_len, flatMap_num_len]
  omega
theorem wpB_firm {P : Program} {md : Region.Mode} {ops : Array Oper} {Q : Exit → Act → World → Prop} {S : World → Prop} (S2 : World → Prop) (hS : ∀ w, S2 w → S w) : ∀ {fuel : Nat} {listed : Array Bool} {a : Act} {w : World}, wpAnyB P md ops Q fuel S2 listed a w → wpAnyB P md ops Q fuel S listed a w
  | 0, _, _, _, h => h
  | fuel + 1, _, _, _, h => ⟨h.1, fun i hi => wpOp_mono (fun a' w' h' => by
      split at h'
      · rw [if_pos (by assumption)]; exact h'
      · rw [if_neg (by assumption)]; exact ⟨hS _ h'.1, wpB_firm S2 hS h'.2⟩) (h.2 i hi)⟩
theorem opensB_rec : Opens Try.prog 25 (Ty.slice Ty.u8) := opens_slice Try.underlying25 (by kernel_rfl) (opens_u8 Try.underlying5 (by kernel_rfl)) (by decide)
theorem recB_most {m : Rec} (h : recR m = true) : (recB m).length ≤ 65536 := by
  unfold recR at h
  simp only [Bool.and_eq_true] at h
  have h1 : (m.nums.flatMap num).length = 18 := by rw [flatMap_num_len]; rfl
  unfold recB logB
  simp only [List.length_append, num_len]
  have h2 : (m.log.flatMap entryB).length ≤ 6000 := by
    have h3 := h.2
    split at h3
    · unfold logR at h3
      simp only [Bool.and_eq_true, decide_eq_true_eq, List.all_eq_true] at h3
      have h4 := flat_most (f := entryB) (K := 6000) (l := m.log) (fun e he => entryB_most (h3.2 e he))
      have h5 : m.log.length ≤ 1 := by omega
      have h6 : 6000 * m.log.length ≤ 6000 * 1 := Nat.mul_le_mul_left _ h5
      omega
    · have h4 : m.log = [] := List.eq_nil_of_length_eq_zero (of_decide_eq_true h3)
      rw [h4]
      exact Nat.zero_le _
  omega

set_option maxHeartbeats 4000000 in
set_option maxRecDepth 100000 in
theorem PackRecords_walk (w : World) (cs : Array Value) (m : Rec) (h : recK.K w (fun k => k < w.heap.size) m cs.toList) (A0 : Option Addr) (n0 c0 : Nat) (b : List UInt8) (hb : Ty.At Ty.u8 w (fun k => k < w.heap.size) A0 n0 c0 b) :
    Calls Try.prog 3 #[.agg cs, .slice A0 n0 c0] w fun e w' => e = .returned (.bool true) ∧ Below w.heap.size w w' := by
  obtain ⟨A, n, c, rfl, hl⟩ := rec_open h
  have HL := hid hl
  obtain ⟨w0, hw0⟩ : ∃ w0, w0 = w.alloc (.cells #[.int .i64 m.kind, .int .i64 m.a, .int .i64 m.b, .slice A n c] 24) := ⟨_, rfl⟩
  have C0 := hid (show Chg (fun _ => False) w w0 by rw [hw0]; exact (Chg.refl _ w).alloc _)
  have B0 := hid (show w0.heap[w.heap.size]? = some (.cells #[.int .i64 m.kind, .int .i64 m.a, .int .i64 m.b, .slice A n c] 24 (0, 0)) by rw [hw0]; exact blk_new w _)
  have HFIN := hid (fun (w' : World) (hc : Chg (fun _ => False) w w') => (show Below w.heap.size w w' from hc.below (Nat.le_refl _) (fun _ h => h.elim)))
  have HBB := hid hb
  have LB := hid hb.1
  clear h hl hb
  go_enter Try.func3, Try.ntmps3
  go_wp2_with fail
  rw [← hw0]
  clear hw0
  refine (anchor_any w0).mono ?_
  rintro e w1 ⟨rfl, h1⟩
  have C1 := hid (C0.out.trans h1 (fun _ h _ => h))
  have B1 := hid (h1.blk B0.out (fun h => h))
  clear h1
  have x3 : w1.cell? ⟨w.heap.size, 3, none⟩ = some (.slice A n c) := (cellAt B1.out 3).trans rfl
  go_wp2_with fail
  clear x3
  refine (small_any (HL.out.chg C1.out (fun _ _ h => h))).mono ?_
  rintro e w2 ⟨rfl, h2⟩
  have C2 := hid (C1.out.trans h2 (fun _ h _ => h))
  have B2 := hid (h2.blk B1.out (fun h => h))
  clear h2
  cases hs : smallR m.log
  · go_wp2_with fail
    go_ret
    exact ⟨rfl, HFIN.out _ C2.out⟩
  have HS := hid hs
  have HPUT := hid (smallR_put hs)
  have hn7 : n ≤ 70 := by have := HL.out.1; have := smallR_len hs; omega
  clear hs
  by_cases i2 : 3000 < n0
  · have i2' : (3000 : Int) < (n0 : Int) := by omega
    go_wp2_with fail
    go_ret
    exact ⟨rfl, HFIN.out _ C2.out⟩
  have i2' : ¬ (3000 : Int) < (n0 : Int) := by omega
  have x0 : w2.cell? ⟨w.heap.size, 0, none⟩ = some (.int .i64 m.kind) := (cellAt B2.out 0).trans rfl
  have x1 : w2.cell? ⟨w.heap.size, 1, none⟩ = some (.int .i64 m.a) := (cellAt B2.out 1).trans rfl
  have x2 : w2.cell? ⟨w.heap.size, 2, none⟩ = some (.int .i64 m.b) := (cellAt B2.out 2).trans rfl
  have x3 : w2.cell? ⟨w.heap.size, 3, none⟩ = some (.slice A n c) := (cellAt B2.out 3).trans rfl
  go_wp2_with fail
  clear x0 x1 x2 x3
  refine (maderec_any (m := m) (HL.out.chg C2.out (fun _ _ h => h)) (by omega) HPUT.out).mono ?_
  rintro e w3 ⟨A3, c3, rfl, hat, h3⟩
  obtain ⟨wa, hwa⟩ : ∃ wa, wa = w3.alloc (.cells #[.int .i64 m.kind, .int .i64 m.a, .int .i64 m.b, .slice A3 m.log.length c3] 30) := ⟨_, rfl⟩
  have CA0 := hid (show Chg (fun _ => False) w3 wa by rw [hwa]; exact (Chg.refl _ w3).alloc _)
  have CA := hid ((C2.out.trans h3 (fun _ h _ => h)).trans CA0.out (fun _ h _ => h))
  have BA := hid (CA0.out.blk (h3.blk B2.out (fun h => h)) (fun h => h))
  have RA := hid (show wa.heap[w3.heap.size]? = some (.cells #[.int .i64 m.kind, .int .i64 m.a, .int .i64 m.b, .slice A3 m.log.length c3] 30 (0, 0)) by rw [hwa]; exact blk_new w3 _)
  have HRA := hid (hat.bound.chg CA0.out (fun _ _ h => h))
  have HWA := hid hwa
  clear hwa hat h3
  have x0 : wa.cell? ⟨w.heap.size, 0, none⟩ = some (.int .i64 m.kind) := (cellAt BA.out 0).trans rfl
  have x1 : wa.cell? ⟨w.heap.size, 1, none⟩ = some (.int .i64 m.a) := (cellAt BA.out 1).trans rfl
  have x2 : wa.cell? ⟨w.heap.size, 2, none⟩ = some (.int .i64 m.b) := (cellAt BA.out 2).trans rfl
  have x3 : wa.cell? ⟨w.heap.size, 3, none⟩ = some (.slice A n c) := (cellAt BA.out 3).trans rfl
  go_wp2_with (first | ((with_reducible refine at_dst (N := 28) rfl ?_); rw [← HWA.out]))
  clear HWA x0 x1 x2 x3
  refine (encoderec_any (m := m) (HL.out.chg CA.out (fun _ _ h => h))).mono ?_
  rintro e w4 ⟨h4, he⟩
  have C4 := hid (CA.out.trans h4 (fun _ h _ => h))
  have B4 := hid (h4.blk BA.out (fun h => h))
  have R4 := hid (h4.blk RA.out (fun h => h))
  have HR4 := hid (HRA.out.chg h4 (fun _ _ h => h))
  have HE := hid he
  obtain ⟨v4, code, hev⟩ : ∃ v code, e = .returned (.tuple #[v, .int .i64 code]) := by
    rcases he with ⟨_, rfl⟩ | ⟨_, _, rfl⟩ | ⟨_, _, _, _, rfl, _⟩ <;> exact ⟨_, _, rfl⟩
  subst hev
  clear h4 he
  have x0 : ∀ wx, Chg (fun _ => False) w4 wx → wx.cell? ⟨w.heap.size, 0, none⟩ = some (.int .i64 m.kind) := fun wx hx => (cellAt (hx.blk B4.out (fun h => h)) 0).trans rfl
  have x1 : ∀ wx, Chg (fun _ => False) w4 wx → wx.cell? ⟨w.heap.size, 1, none⟩ = some (.int .i64 m.a) := fun wx hx => (cellAt (hx.blk B4.out (fun h => h)) 1).trans rfl
  have x2 : ∀ wx, Chg (fun _ => False) w4 wx → wx.cell? ⟨w.heap.size, 2, none⟩ = some (.int .i64 m.b) := fun wx hx => (cellAt (hx.blk B4.out (fun h => h)) 2).trans rfl
  have x3 : ∀ wx, Chg (fun _ => False) w4 wx → wx.cell? ⟨w.heap.size, 3, none⟩ = some (.slice A n c) := fun wx hx => (cellAt (hx.blk B4.out (fun h => h)) 3).trans rfl
  have r0 : ∀ wx, Chg (fun _ => False) w4 wx → wx.cell? ⟨w3.heap.size, 0, none⟩ = some (.int .i64 m.kind) := fun wx hx => (cellAt (hx.blk R4.out (fun h => h)) 0).trans rfl
  have r1 : ∀ wx, Chg (fun _ => False) w4 wx → wx.cell? ⟨w3.heap.size, 1, none⟩ = some (.int .i64 m.a) := fun wx hx => (cellAt (hx.blk R4.out (fun h => h)) 1).trans rfl
  have r2 : ∀ wx, Chg (fun _ => False) w4 wx → wx.cell? ⟨w3.heap.size, 2, none⟩ = some (.int .i64 m.b) := fun wx hx => (cellAt (hx.blk R4.out (fun h => h)) 2).trans rfl
  have r3 : ∀ wx, Chg (fun _ => False) w4 wx → wx.cell? ⟨w3.heap.size, 3, none⟩ = some (.slice A3 m.log.length c3) := fun wx hx => (cellAt (hx.blk R4.out (fun h => h)) 3).trans rfl
  go_wp2_with fail
  refine wpB_start (fun wx : World => Chg (fun _ => False) w4 wx) (by kernel_rfl) ?_
  have hHeld : (fun wx : World => Chg (fun _ => False) w4 wx) _ := (by first | assumption | exact Chg.drew (Chg.refl _ _) | (show _ ∧ _; refine ⟨?_, ?_⟩ <;> assumption) | (first | (with_reducible exact hHeld.trans HZ2.out (fun _ h _ => h)) | (with_reducible exact hHeld.trans HZ.out (fun _ h _ => h))))
  -- 0: t32 := load 24 t2 : 24
  refine wpB_take (i := 0) (v := ?_) (get_of_drop rfl) (by kernel_rfl) (by kernel_rfl) (by kernel_rfl) (by kernel_rfl) (fun _ _ _ h => h) (Or.inl ⟨by rfl, ?_⟩) hHeld ?_
  rotate_left
  · (intro w hSw; (try dsimp only at hSw); go_simp <;> with_reducible rfl)
  try simp only [Act.put, List.setIfInBounds_toArray, List.set_cons_zero, List.set_cons_succ]
  -- 2: t34 := load 30 t5 : 30
  refine wpB_take (i := 2) (v := ?_) (get_of_drop rfl) (by kernel_rfl) (by kernel_rfl) (by kernel_rfl) (by kernel_rfl) (fun _ _ _ h => h) (Or.inl ⟨by rfl, ?_⟩) hHeld ?_
  rotate_left
  · (intro w hSw; (try dsimp only at hSw); go_simp <;> with_reducible rfl)
  try simp only [Act.put, List.setIfInBounds_toArray, List.set_cons_zero, List.set_cons_succ]
  -- 1: t33 := CALL fn14(t32) : 4
  refine wpB_act (i := 1) (by kernel_rfl) (get_of_drop rfl) (fun K hK => ?_)
  go_simp
  refine (recright_any (m := m) ((HL.out.chg C4.out (fun _ _ h => h)).chg (Chg.refl (fun _ => False) w4).drew (fun _ _ h => h))).mono ?_
  rintro e wy ⟨rfl, hy⟩
  have HZ := hid hy
  clear hy
  refine hK.out _ _ ?_ (fun hHeld2 => ?_)
  · (first | (with_reducible exact hHeld.trans HZ2.out (fun _ h _ => h)) | (with_reducible exact hHeld.trans HZ.out (fun _ h _ => h)))
  clear hHeld hK K
  have hHeld := hHeld2
  clear hHeld2
  try simp only [Act.put, List.setIfInBounds_toArray, List.set_cons_zero, List.set_cons_succ]
  -- 3: t35 := CALL fn15(t34) : 4 (BARRIER)
  refine wpB_bar (i := 3) (by kernel_rfl) (get_of_drop rfl) (by kernel_rfl) (fun K hK => ?_)
  go_simp
  refine (refrecright_any (m := m) ((HR4.out.chg (Chg.refl (fun _ => False) w4).drew (fun _ _ h => h)).chg HZ.out (fun _ _ h => h))).mono ?_
  rintro e wz ⟨rfl, hz⟩
  have HZ2 := hid hz
  clear hz
  refine hK.out _ _ (fun _ : World => True) ?_
  clear hHeld hK K
  have hHeld := trivial
  try simp only [Act.put, List.setIfInBounds_toArray, List.set_cons_zero, List.set_cons_succ]
  -- 4: t36 := binOp BinOp.neq 4 t33 t35 4 : 4
  refine wpB_take (i := 4) (v := ?_) (get_of_drop rfl) (by kernel_rfl) (by kernel_rfl) (by kernel_rfl) (by kernel_rfl) (fun _ _ _ h => h) (Or.inl ⟨by rfl, ?_⟩) hHeld ?_
  rotate_left
  · (intro w hSw; (try dsimp only at hSw); go_simp <;> with_reducible rfl)
  try simp only [Act.put, List.setIfInBounds_toArray, List.set_cons_zero, List.set_cons_succ]
  refine wpB_done (by kernel_rfl) ?_ _
  replace hHeld : Chg (fun _ => False) w4 wz := ((Chg.refl (fun _ => False) w4).drew.trans HZ.out (fun _ h _ => h)).trans HZ2.out (fun _ h _ => h)
  have CZ := hid hHeld
  have C5 := hid (C4.out.trans hHeld (fun _ h _ => h))
  have R5 := hid (hHeld.blk R4.out (fun h => h))
  have HR5 := hid (HR4.out.chg hHeld (fun _ _ h => h))
  clear hHeld x0 r0 x1 r1 x2 r2 x3 r3
  have r0 : wz.cell? ⟨w3.heap.size, 0, none⟩ = some (.int .i64 m.kind) := (cellAt R5.out 0).trans rfl
  have r1 : wz.cell? ⟨w3.heap.size, 1, none⟩ = some (.int .i64 m.a) := (cellAt R5.out 1).trans rfl
  have r2 : wz.cell? ⟨w3.heap.size, 2, none⟩ = some (.int .i64 m.b) := (cellAt R5.out 2).trans rfl
  have r3 : wz.cell? ⟨w3.heap.size, 3, none⟩ = some (.slice A3 m.log.length c3) := (cellAt R5.out 3).trans rfl
  go_wp2_with fail
  clear r0 r1 r2 r3
  refine (refrecright_any (m := m) HR5.out).mono ?_
  rintro e w6 ⟨rfl, h6⟩
  have C6 := hid (C5.out.trans h6 (fun _ h _ => h))
  have CZ6 := hid (CZ.out.trans h6 (fun _ h _ => h))
  have R6 := hid (h6.blk R5.out (fun h => h))
  have HR6 := hid (HR5.out.chg h6 (fun _ _ h => h))
  clear h6
  rcases HE.out with ⟨hr, hv⟩ | ⟨hr, hlen, hv⟩ | ⟨hr, hlen, A', c', hv, hby⟩
  · injection hv with hv
    simp at hv
    obtain ⟨rfl, rfl⟩ := hv
    rw [hr]
    clear hr
    have CQ := hid C6.out
    go_wp2_with fail
    refine (decoderec_any (HBB.out.chg CQ.out (fun _ _ h => h)) (by omega)).mono ?_
    rintro e w11 ⟨h11, hd⟩
    have C11 := hid (CQ.out.trans h11 (fun _ h _ => h))
    rcases hd with ⟨hp, rfl⟩ | ⟨m1, A11, n11, c11, hp, rfl, _, hlog⟩
    · have HP := hid hp
      have CT := hid (show Chg (fun _ => False) w (w11.alloc (.cells #[.int .i64 0, .int .i64 0, .int .i64 0, .slice none 0 0] 24)) from C11.out.alloc _)
      have BT := hid (blk_new w11 (.cells #[.int .i64 0, .int .i64 0, .int .i64 0, .slice none 0 0] 24))
      clear h11 hp
      go_wp2_with fail
      refine (parserec_any (HBB.out.chg CT.out (fun _ _ h => h)) (by omega)).mono ?_
      rintro e w12 ⟨m', A12, n12, c12, ok, rfl, hq, _, _, hc12⟩
      rw [← parseRec_eq, HP.out] at hq
      obtain rfl : ok = false := by
        cases ok with
        | false => rfl
        | true => simp at hq
      have CB := hid ((CT.out.trans hc12 (fun _ h _ => h)).alloc (.cells #[.int .i64 m'.kind, .int .i64 m'.a, .int .i64 m'.b, .slice A12 n12 c12] 30))
      have BB := hid (blk_alloc (hc12.blk BT.out (fun h => h)) (.cells #[.int .i64 m'.kind, .int .i64 m'.a, .int .i64 m'.b, .slice A12 n12 c12] 30))
      clear hc12 hq
      have z0 : (w12.alloc (.cells #[.int .i64 m'.kind, .int .i64 m'.a, .int .i64 m'.b, .slice A12 n12 c12] 30)).cell? ⟨w11.heap.size, 0, none⟩ = some (.int .i64 0) := (cellAt BB.out 0).trans rfl
      have z1 : (w12.alloc (.cells #[.int .i64 m'.kind, .int .i64 m'.a, .int .i64 m'.b, .slice A12 n12 c12] 30)).cell? ⟨w11.heap.size, 1, none⟩ = some (.int .i64 0) := (cellAt BB.out 1).trans rfl
      have z2 : (w12.alloc (.cells #[.int .i64 m'.kind, .int .i64 m'.a, .int .i64 m'.b, .slice A12 n12 c12] 30)).cell? ⟨w11.heap.size, 2, none⟩ = some (.int .i64 0) := (cellAt BB.out 2).trans rfl
      have z3 : (w12.alloc (.cells #[.int .i64 m'.kind, .int .i64 m'.a, .int .i64 m'.b, .slice A12 n12 c12] 30)).cell? ⟨w11.heap.size, 3, none⟩ = some (.slice none 0 0) := (cellAt BB.out 3).trans rfl
      go_wp2_with fail
      go_ret
      exact ⟨rfl, HFIN.out _ CB.out⟩
    · have HP := hid hp
      have HOK1 := hid (recR_ok (parseRec_back hp).2.1)
      have hn11 : n11 ≤ 100 := by have := hlog.1; have := HOK1.out.len; omega
      have CT := hid (show Chg (fun _ => False) w (w11.alloc (.cells #[.int .i64 m1.kind, .int .i64 m1.a, .int .i64 m1.b, .slice A11 n11 c11] 24)) from C11.out.alloc _)
      have CT1 := hid (show Chg (fun _ => False) w11 (w11.alloc (.cells #[.int .i64 m1.kind, .int .i64 m1.a, .int .i64 m1.b, .slice A11 n11 c11] 24)) from (Chg.refl _ w11).alloc _)
      have BT := hid (blk_new w11 (.cells #[.int .i64 m1.kind, .int .i64 m1.a, .int .i64 m1.b, .slice A11 n11 c11] 24))
      have HLOG := hid hlog.bound
      clear h11 hp hlog
      go_wp2_with fail
      refine (parserec_any (HBB.out.chg CT.out (fun _ _ h => h)) (by omega)).mono ?_
      rintro e w12 ⟨m', A12, n12, c12, ok, rfl, hq, _, hl12, hc12⟩
      rw [← parseRec_eq, HP.out] at hq
      obtain rfl : ok = true := by
        cases ok with
        | true => rfl
        | false => simp at hq
      obtain rfl : m1 = m' := by simpa using hq
      obtain ⟨wb, hwb⟩ : ∃ wb, wb = w12.alloc (.cells #[.int .i64 m1.kind, .int .i64 m1.a, .int .i64 m1.b, .slice A12 n12 c12] 30) := ⟨_, rfl⟩
      have CB0 := hid (show Chg (fun _ => False) w12 wb by rw [hwb]; exact (Chg.refl _ w12).alloc _)
      have CB := hid ((CT.out.trans hc12 (fun _ h _ => h)).trans CB0.out (fun _ h _ => h))
      have BB := hid (CB0.out.blk (hc12.blk BT.out (fun h => h)) (fun h => h))
      have B5 := hid (show wb.heap[w12.heap.size]? = some (.cells #[.int .i64 m1.kind, .int .i64 m1.a, .int .i64 m1.b, .slice A12 n12 c12] 30 (0, 0)) by rw [hwb]; exact blk_new w12 _)
      have HLB := hid ((((HLOG.out.chg CT1.out (fun _ _ h => h)).chg hc12 (fun _ _ h => h)).chg CB0.out (fun _ _ h => h)))
      have HL3B := hid (hl12.chg CB0.out (fun _ _ h => h))
      have z0 : wb.cell? ⟨w11.heap.size, 0, none⟩ = some (.int .i64 m1.kind) := (cellAt BB.out 0).trans rfl
      have z1 : wb.cell? ⟨w11.heap.size, 1, none⟩ = some (.int .i64 m1.a) := (cellAt BB.out 1).trans rfl
      have z2 : wb.cell? ⟨w11.heap.size, 2, none⟩ = some (.int .i64 m1.b) := (cellAt BB.out 2).trans rfl
      have z3 : wb.cell? ⟨w11.heap.size, 3, none⟩ = some (.slice A11 n11 c11) := (cellAt BB.out 3).trans rfl
      have q0 : wb.cell? ⟨w12.heap.size, 0, none⟩ = some (.int .i64 m1.kind) := (cellAt B5.out 0).trans rfl
      have q1 : wb.cell? ⟨w12.heap.size, 1, none⟩ = some (.int .i64 m1.a) := (cellAt B5.out 1).trans rfl
      have q2 : wb.cell? ⟨w12.heap.size, 2, none⟩ = some (.int .i64 m1.b) := (cellAt B5.out 2).trans rfl
      have q3 : wb.cell? ⟨w12.heap.size, 3, none⟩ = some (.slice A12 n12 c12) := (cellAt B5.out 3).trans rfl
      have HWB := hid hwb
      clear hwb hc12 hq hl12
      go_wp2_with (first | ((with_reducible refine at_dst (N := 93) rfl ?_); rw [← HWB.out]))
      clear HWB z0 q0 z1 q1 z2 q2 z3 q3
      refine (likerec_any (m := m1) (x := m1) HLB.out HL3B.out (by omega) (fun e he => by have := (HOK1.out.log e he).putl; omega)).mono ?_
      rintro e w13 ⟨rfl, hc13⟩
      rw [decide_eq_true (rfl : m1 = m1)]
      have C13 := hid (CB.out.trans hc13 (fun _ h _ => h))
      clear hc13
      go_wp2_with fail
      go_ret
      exact ⟨by simp, HFIN.out _ C13.out⟩
  · have := recB_most hr
    omega
  · injection hv with hv
    simp at hv
    obtain ⟨rfl, rfl⟩ := hv
    have HOK := hid (recR_ok hr)
    have HPB := hid (parseRec_bytes hr hlen)
    have HBY := hid (hby.bound.chg CZ6.out (fun _ _ h => h))
    rw [hr]
    obtain ⟨L, hL⟩ : ∃ L, (recB m).length = L := ⟨_, rfl⟩
    have HLL := hid hL
    have HLEN := hid hlen
    rw [hL] at HBY HLEN ⊢
    clear hr hlen hby hL
    go_wp2_with fail
    refine (decoderec_any HBY.out.at (by have := HLEN.out; omega)).mono ?_
    rintro e w8 ⟨h8, hd⟩
    rcases hd with ⟨hd, _⟩ | ⟨m', A8, n8, c8, hd, rfl, _, hlog⟩
    · rw [HPB.out] at hd
      cases hd
    obtain rfl : m = m' := by rw [HPB.out] at hd; injection hd
    obtain ⟨wd, hwd⟩ : ∃ wd, wd = w8.alloc (.cells #[.int .i64 m.kind, .int .i64 m.a, .int .i64 m.b, .slice A8 n8 c8] 24) := ⟨_, rfl⟩
    have CD0 := hid (show Chg (fun _ => False) w8 wd by rw [hwd]; exact (Chg.refl _ w8).alloc _)
    have C68 := hid (show Chg (fun _ => False) w6 wd from h8.trans CD0.out (fun _ h _ => h))
    have CD := hid (C6.out.trans C68.out (fun _ h _ => h))
    have DD := hid (show wd.heap[w8.heap.size]? = some (.cells #[.int .i64 m.kind, .int .i64 m.a, .int .i64 m.b, .slice A8 n8 c8] 24 (0, 0)) by rw [hwd]; exact blk_new w8 _)
    have RD := hid (C68.out.blk R6.out (fun h => h))
    have HLD := hid (hlog.chg CD0.out (fun _ _ h => h))
    have HRD := hid (HR6.out.chg C68.out (fun _ _ h => h))
    have HBD := hid (HBY.out.chg C68.out (fun _ _ h => h))
    have hn8 : n8 ≤ 100 := by have := hlog.1; have := HOK.out.len; omega
    have HWD := hid hwd
    clear hwd h8 hd hlog
    have hs1 : ∀ wx, Chg (fun _ => False) wd wx → (convert 25 9 (.slice A' L c')).run Try.prog wx = .ok (.string (bstr (recB m))) wx := fun wx hx => HBD.out.str hx (fun _ _ h => h)
    have x0 : ∀ wx, Chg (fun _ => False) wd wx → wx.cell? ⟨w8.heap.size, 0, none⟩ = some (.int .i64 m.kind) := fun wx hx => (cellAt (hx.blk DD.out (fun h => h)) 0).trans rfl
    have x1 : ∀ wx, Chg (fun _ => False) wd wx → wx.cell? ⟨w8.heap.size, 1, none⟩ = some (.int .i64 m.a) := fun wx hx => (cellAt (hx.blk DD.out (fun h => h)) 1).trans rfl
    have x2 : ∀ wx, Chg (fun _ => False) wd wx → wx.cell? ⟨w8.heap.size, 2, none⟩ = some (.int .i64 m.b) := fun wx hx => (cellAt (hx.blk DD.out (fun h => h)) 2).trans rfl
    have x3 : ∀ wx, Chg (fun _ => False) wd wx → wx.cell? ⟨w8.heap.size, 3, none⟩ = some (.slice A8 n8 c8) := fun wx hx => (cellAt (hx.blk DD.out (fun h => h)) 3).trans rfl
    have r0 : ∀ wx, Chg (fun _ => False) wd wx → wx.cell? ⟨w3.heap.size, 0, none⟩ = some (.int .i64 m.kind) := fun wx hx => (cellAt (hx.blk RD.out (fun h => h)) 0).trans rfl
    have r1 : ∀ wx, Chg (fun _ => False) wd wx → wx.cell? ⟨w3.heap.size, 1, none⟩ = some (.int .i64 m.a) := fun wx hx => (cellAt (hx.blk RD.out (fun h => h)) 1).trans rfl
    have r2 : ∀ wx, Chg (fun _ => False) wd wx → wx.cell? ⟨w3.heap.size, 2, none⟩ = some (.int .i64 m.b) := fun wx hx => (cellAt (hx.blk RD.out (fun h => h)) 2).trans rfl
    have r3 : ∀ wx, Chg (fun _ => False) wd wx → wx.cell? ⟨w3.heap.size, 3, none⟩ = some (.slice A3 m.log.length c3) := fun wx hx => (cellAt (hx.blk RD.out (fun h => h)) 3).trans rfl
    go_wp2_with fail
    rw [← HWD.out]
    clear HWD
    refine wpB_start (fun wx : World => Chg (fun _ => False) wd wx) (by kernel_rfl) ?_
    have hHeld : (fun wx : World => Chg (fun _ => False) wd wx) _ := (by first | assumption | exact Chg.drew (Chg.refl _ _) | (show _ ∧ _; refine ⟨?_, ?_⟩ <;> assumption) | (first | (with_reducible exact CY.out) | (with_reducible exact hHeld.trans HZ4.out (fun _ h _ => h))))
    -- 0: t44 := move t7 : 32
    refine wpB_take (i := 0) (v := ?_) (get_of_drop rfl) (by kernel_rfl) (by kernel_rfl) (by kernel_rfl) (by kernel_rfl) (fun _ _ _ h => h) (Or.inl ⟨by rfl, ?_⟩) hHeld ?_
    rotate_left
    · (intro w hSw; (try dsimp only at hSw); go_simp <;> with_reducible rfl)
    try simp only [Act.put, List.setIfInBounds_toArray, List.set_cons_zero, List.set_cons_succ]
    -- 1: t45 := binOp BinOp.neq 32 t44 #i64:0 32 : 4
    refine wpB_take (i := 1) (v := ?_) (get_of_drop rfl) (by kernel_rfl) (by kernel_rfl) (by kernel_rfl) (by kernel_rfl) (fun _ _ _ h => h) (Or.inl ⟨by rfl, ?_⟩) hHeld ?_
    rotate_left
    · (intro w hSw; (try dsimp only at hSw); go_simp <;> with_reducible rfl)
    try simp only [Act.put, List.setIfInBounds_toArray, List.set_cons_zero, List.set_cons_succ]
    -- 2: t46 := move t45 : 4
    refine wpB_take (i := 2) (v := ?_) (get_of_drop rfl) (by kernel_rfl) (by kernel_rfl) (by kernel_rfl) (by kernel_rfl) (fun _ _ _ h => h) (Or.inl ⟨by rfl, ?_⟩) hHeld ?_
    rotate_left
    · (intro w hSw; (try dsimp only at hSw); go_simp <;> with_reducible rfl)
    try simp only [Act.put, List.setIfInBounds_toArray, List.set_cons_zero, List.set_cons_succ]
    -- 3: t47 := move t6 : 25   [if ⟨2, false⟩]
    refine wpB_take (i := 3) (v := ?_) (get_of_drop rfl) (by kernel_rfl) (by kernel_rfl) (by kernel_rfl) (by kernel_rfl) (fun _ _ _ h => h) (Or.inl ⟨by rfl, ?_⟩) hHeld ?_
    rotate_left
    · (intro w hSw; (try dsimp only at hSw); go_simp <;> with_reducible rfl)
    try simp only [Act.put, List.setIfInBounds_toArray, List.set_cons_zero, List.set_cons_succ]
    -- 4: t48 := convert 25 9 t47 : 9   [if ⟨2, false⟩]
    refine wpB_take (i := 4) (v := ?_) (get_of_drop rfl) (by kernel_rfl) (by kernel_rfl) (by kernel_rfl) (by kernel_rfl) (fun _ _ _ h => h) (Or.inl ⟨by rfl, ?_⟩) hHeld ?_
    rotate_left
    · (intro w hSw; (try dsimp only at hSw); go_simp <;> with_reducible rfl)
    try simp only [Act.put, List.setIfInBounds_toArray, List.set_cons_zero, List.set_cons_succ]
    -- 5: t49 := load 30 t5 : 30   [if ⟨2, false⟩]
    refine wpB_take (i := 5) (v := ?_) (get_of_drop rfl) (by kernel_rfl) (by kernel_rfl) (by kernel_rfl) (by kernel_rfl) (fun _ _ _ h => h) (Or.inl ⟨by rfl, ?_⟩) hHeld ?_
    rotate_left
    · (intro w hSw; (try dsimp only at hSw); go_simp <;> with_reducible rfl)
    try simp only [Act.put, List.setIfInBounds_toArray, List.set_cons_zero, List.set_cons_succ]
    -- 6: t50 := CALL fn17(t49) : 25   [if ⟨2, false⟩]
    refine wpB_act (i := 6) (by kernel_rfl) (get_of_drop rfl) (fun K hK => ?_)
    go_simp
    refine (refrecbytes_any (HRD.out.chg (Chg.refl (fun _ => False) wd).drew (fun _ _ h => h)) HOK.out).mono ?_
    rintro e wy ⟨v7, rfl, h7⟩
    obtain ⟨A7, c7, rfl⟩ := h7.byt.form
    rw [HLL.out] at h7 ⊢
    have HB7 := hid h7.byt
    have HZ3 := hid h7.chg
    have hsq : ∀ wx, Chg (fun _ => False) wy wx → (convert 25 9 (.slice A7 L c7)).run Try.prog wx = .ok (.string (bstr (recB m))) wx := fun wx hx => HB7.out.str hx (fun _ _ h => h)
    have CY := hid (show Chg (fun _ => False) wd wy from (Chg.refl (fun _ => False) wd).drew.trans HZ3.out (fun _ h _ => h))
    have hs1y : ∀ wx, Chg (fun _ => False) wy wx → (convert 25 9 (.slice A' L c')).run Try.prog wx = .ok (.string (bstr (recB m))) wx := fun wx hx => hs1 wx (CY.out.trans hx (fun _ h _ => h))
    have DY := hid (CY.out.blk DD.out (fun h => h))
    have RY := hid (CY.out.blk RD.out (fun h => h))
    have xy0 : ∀ wx, Chg (fun _ => False) wy wx → wx.cell? ⟨w8.heap.size, 0, none⟩ = some (.int .i64 m.kind) := fun wx hx => (cellAt (hx.blk DY.out (fun h => h)) 0).trans rfl
    have xy1 : ∀ wx, Chg (fun _ => False) wy wx → wx.cell? ⟨w8.heap.size, 1, none⟩ = some (.int .i64 m.a) := fun wx hx => (cellAt (hx.blk DY.out (fun h => h)) 1).trans rfl
    have xy2 : ∀ wx, Chg (fun _ => False) wy wx → wx.cell? ⟨w8.heap.size, 2, none⟩ = some (.int .i64 m.b) := fun wx hx => (cellAt (hx.blk DY.out (fun h => h)) 2).trans rfl
    have xy3 : ∀ wx, Chg (fun _ => False) wy wx → wx.cell? ⟨w8.heap.size, 3, none⟩ = some (.slice A8 n8 c8) := fun wx hx => (cellAt (hx.blk DY.out (fun h => h)) 3).trans rfl
    have ry0 : ∀ wx, Chg (fun _ => False) wy wx → wx.cell? ⟨w3.heap.size, 0, none⟩ = some (.int .i64 m.kind) := fun wx hx => (cellAt (hx.blk RY.out (fun h => h)) 0).trans rfl
    have ry1 : ∀ wx, Chg (fun _ => False) wy wx → wx.cell? ⟨w3.heap.size, 1, none⟩ = some (.int .i64 m.a) := fun wx hx => (cellAt (hx.blk RY.out (fun h => h)) 1).trans rfl
    have ry2 : ∀ wx, Chg (fun _ => False) wy wx → wx.cell? ⟨w3.heap.size, 2, none⟩ = some (.int .i64 m.b) := fun wx hx => (cellAt (hx.blk RY.out (fun h => h)) 2).trans rfl
    have ry3 : ∀ wx, Chg (fun _ => False) wy wx → wx.cell? ⟨w3.heap.size, 3, none⟩ = some (.slice A3 m.log.length c3) := fun wx hx => (cellAt (hx.blk RY.out (fun h => h)) 3).trans rfl
    clear h7 x0 r0 x1 r1 x2 r2 x3 r3 hs1
    refine hK.out _ _ ?_ (fun hHeld2 => ?_)
    · (first | (with_reducible exact CY.out) | (with_reducible exact hHeld.trans HZ4.out (fun _ h _ => h)))
    clear hHeld hK K
    have hHeld := hHeld2
    clear hHeld2
    refine wpB_firm (fun wx : World => Chg (fun _ => False) wy wx) (fun _ hx => CY.out.trans hx (fun _ h _ => h)) ?_
    clear hHeld
    have hHeld : (fun wx : World => Chg (fun _ => False) wy wx) _ := (by exact Chg.refl _ _)
    try simp only [Act.put, List.setIfInBounds_toArray, List.set_cons_zero, List.set_cons_succ]
    -- 7: t51 := convert 25 9 t50 : 9   [if ⟨2, false⟩]
    refine wpB_take (i := 7) (v := ?_) (get_of_drop rfl) (by kernel_rfl) (by kernel_rfl) (by kernel_rfl) (by kernel_rfl) (fun _ _ _ h => h) (Or.inl ⟨by rfl, ?_⟩) hHeld ?_
    rotate_left
    · (intro w hSw; (try dsimp only at hSw); go_simp <;> with_reducible rfl)
    try simp only [Act.put, List.setIfInBounds_toArray, List.set_cons_zero, List.set_cons_succ]
    -- 8: t52 := binOp BinOp.neq 9 t48 t51 9 : 4   [if ⟨2, false⟩]
    refine wpB_take (i := 8) (v := ?_) (get_of_drop rfl) (by kernel_rfl) (by kernel_rfl) (by kernel_rfl) (by kernel_rfl) (fun _ _ _ h => h) (Or.inl ⟨by rfl, ?_⟩) hHeld ?_
    rotate_left
    · (intro w hSw; (try dsimp only at hSw); go_simp <;> with_reducible rfl)
    try simp only [Act.put, List.setIfInBounds_toArray, List.set_cons_zero, List.set_cons_succ]
    -- 9: t53 := pick t46 #true t52 : 4
    refine wpB_take (i := 9) (v := ?_) (get_of_drop rfl) (by kernel_rfl) (by kernel_rfl) (by kernel_rfl) (by kernel_rfl) (fun _ _ _ h => h) (Or.inl ⟨by rfl, ?_⟩) hHeld ?_
    rotate_left
    · (intro w hSw; (try dsimp only at hSw); go_simp <;> with_reducible rfl)
    try simp only [Act.put, List.setIfInBounds_toArray, List.set_cons_zero, List.set_cons_succ]
    -- 10: t54 := move t53 : 4
    refine wpB_take (i := 10) (v := ?_) (get_of_drop rfl) (by kernel_rfl) (by kernel_rfl) (by kernel_rfl) (by kernel_rfl) (fun _ _ _ h => h) (Or.inl ⟨by rfl, ?_⟩) hHeld ?_
    rotate_left
    · (intro w hSw; (try dsimp only at hSw); go_simp <;> with_reducible rfl)
    try simp only [Act.put, List.setIfInBounds_toArray, List.set_cons_zero, List.set_cons_succ]
    -- 11: t55 := move t9 : 32   [if ⟨10, false⟩]
    refine wpB_take (i := 11) (v := ?_) (get_of_drop rfl) (by kernel_rfl) (by kernel_rfl) (by kernel_rfl) (by kernel_rfl) (fun _ _ _ h => h) (Or.inl ⟨by rfl, ?_⟩) hHeld ?_
    rotate_left
    · (intro w hSw; (try dsimp only at hSw); go_simp <;> with_reducible rfl)
    try simp only [Act.put, List.setIfInBounds_toArray, List.set_cons_zero, List.set_cons_succ]
    -- 12: t56 := binOp BinOp.neq 32 t55 #i64:0 32 : 4   [if ⟨10, false⟩]
    refine wpB_take (i := 12) (v := ?_) (get_of_drop rfl) (by kernel_rfl) (by kernel_rfl) (by kernel_rfl) (by kernel_rfl) (fun _ _ _ h => h) (Or.inl ⟨by rfl, ?_⟩) hHeld ?_
    rotate_left
    · (intro w hSw; (try dsimp only at hSw); go_simp <;> with_reducible rfl)
    try simp only [Act.put, List.setIfInBounds_toArray, List.set_cons_zero, List.set_cons_succ]
    -- 13: t57 := pick t54 #true t56 : 4
    refine wpB_take (i := 13) (v := ?_) (get_of_drop rfl) (by kernel_rfl) (by kernel_rfl) (by kernel_rfl) (by kernel_rfl) (fun _ _ _ h => h) (Or.inl ⟨by rfl, ?_⟩) hHeld ?_
    rotate_left
    · (intro w hSw; (try dsimp only at hSw); go_simp <;> with_reducible rfl)
    try simp only [Act.put, List.setIfInBounds_toArray, List.set_cons_zero, List.set_cons_succ]
    -- 14: t58 := move t57 : 4
    refine wpB_take (i := 14) (v := ?_) (get_of_drop rfl) (by kernel_rfl) (by kernel_rfl) (by kernel_rfl) (by kernel_rfl) (fun _ _ _ h => h) (Or.inl ⟨by rfl, ?_⟩) hHeld ?_
    rotate_left
    · (intro w hSw; (try dsimp only at hSw); go_simp <;> with_reducible rfl)
    try simp only [Act.put, List.setIfInBounds_toArray, List.set_cons_zero, List.set_cons_succ]
    -- 15: t59 := load 24 t8 : 24   [if ⟨14, false⟩]
    refine wpB_take (i := 15) (v := ?_) (get_of_drop rfl) (by kernel_rfl) (by kernel_rfl) (by kernel_rfl) (by kernel_rfl) (fun _ _ _ h => h) (Or.inl ⟨by rfl, ?_⟩) hHeld ?_
    rotate_left
    · (intro w hSw; (try dsimp only at hSw); go_simp <;> with_reducible rfl)
    try simp only [Act.put, List.setIfInBounds_toArray, List.set_cons_zero, List.set_cons_succ]
    -- 16: t60 := load 30 t5 : 30   [if ⟨14, false⟩]
    refine wpB_take (i := 16) (v := ?_) (get_of_drop rfl) (by kernel_rfl) (by kernel_rfl) (by kernel_rfl) (by kernel_rfl) (fun _ _ _ h => h) (Or.inl ⟨by rfl, ?_⟩) hHeld ?_
    rotate_left
    · (intro w hSw; (try dsimp only at hSw); go_simp <;> with_reducible rfl)
    try simp only [Act.put, List.setIfInBounds_toArray, List.set_cons_zero, List.set_cons_succ]
    -- 17: t61 := CALL fn18(t59, t60) : 4   [if ⟨14, false⟩]
    refine wpB_act (i := 17) (by kernel_rfl) (get_of_drop rfl) (fun K hK => ?_)
    go_simp
    refine (likerec_any (m := m) (x := m) ((HLD.out.chg (Chg.refl (fun _ => False) wd).drew (fun _ _ h => h)).chg HZ3.out (fun _ _ h => h)) ((HRD.out.chg (Chg.refl (fun _ => False) wd).drew (fun _ _ h => h)).chg HZ3.out (fun _ _ h => h)) (by omega) (fun e he => HPUT.out e he)).mono ?_
    rintro e wv ⟨rfl, hz⟩
    rw [decide_eq_true (rfl : m = m)]
    have HZ4 := hid hz
    clear hz hsq hs1y
    refine hK.out _ _ ?_ (fun hHeld2 => ?_)
    · (first | (with_reducible exact CY.out) | (with_reducible exact hHeld.trans HZ4.out (fun _ h _ => h)))
    clear hHeld hK K
    have hHeld := hHeld2
    clear hHeld2
    try simp only [Act.put, List.setIfInBounds_toArray, List.set_cons_zero, List.set_cons_succ]
    -- 18: t62 := unOp UnOp.not 4 t61 : 4   [if ⟨14, false⟩]
    refine wpB_take (i := 18) (v := ?_) (get_of_drop rfl) (by kernel_rfl) (by kernel_rfl) (by kernel_rfl) (by kernel_rfl) (fun _ _ _ h => h) (Or.inl ⟨by rfl, ?_⟩) hHeld ?_
    rotate_left
    · (intro w hSw; (try dsimp only at hSw); go_simp <;> with_reducible rfl)
    try simp only [Act.put, List.setIfInBounds_toArray, List.set_cons_zero, List.set_cons_succ]
    -- 19: t63 := pick t58 #true t62 : 4
    refine wpB_take (i := 19) (v := ?_) (get_of_drop rfl) (by kernel_rfl) (by kernel_rfl) (by kernel_rfl) (by kernel_rfl) (fun _ _ _ h => h) (Or.inl ⟨by rfl, ?_⟩) hHeld ?_
    rotate_left
    · (intro w hSw; (try dsimp only at hSw); go_simp <;> with_reducible rfl)
    try simp only [Act.put, List.setIfInBounds_toArray, List.set_cons_zero, List.set_cons_succ]
    refine wpB_done (by kernel_rfl) ?_ _
    have CQ := hid (CD.out.trans (((Chg.refl (fun _ => False) wd).drew.trans HZ3.out (fun _ h _ => h)).trans HZ4.out (fun _ h _ => h)) (fun _ h _ => h))
    clear hHeld xy0 ry0 xy1 ry1 xy2 ry2 xy3 ry3
    go_wp2_with fail
    refine (decoderec_any (HBB.out.chg CQ.out (fun _ _ h => h)) (by omega)).mono ?_
    rintro e w11 ⟨h11, hd⟩
    have C11 := hid (CQ.out.trans h11 (fun _ h _ => h))
    rcases hd with ⟨hp, rfl⟩ | ⟨m1, A11, n11, c11, hp, rfl, _, hlog⟩
    · have HP := hid hp
      have CT := hid (show Chg (fun _ => False) w (w11.alloc (.cells #[.int .i64 0, .int .i64 0, .int .i64 0, .slice none 0 0] 24)) from C11.out.alloc _)
      have BT := hid (blk_new w11 (.cells #[.int .i64 0, .int .i64 0, .int .i64 0, .slice none 0 0] 24))
      clear h11 hp
      go_wp2_with fail
      refine (parserec_any (HBB.out.chg CT.out (fun _ _ h => h)) (by omega)).mono ?_
      rintro e w12 ⟨m', A12, n12, c12, ok, rfl, hq, _, _, hc12⟩
      rw [← parseRec_eq, HP.out] at hq
      obtain rfl : ok = false := by
        cases ok with
        | false => rfl
        | true => simp at hq
      have CB := hid ((CT.out.trans hc12 (fun _ h _ => h)).alloc (.cells #[.int .i64 m'.kind, .int .i64 m'.a, .int .i64 m'.b, .slice A12 n12 c12] 30))
      have BB := hid (blk_alloc (hc12.blk BT.out (fun h => h)) (.cells #[.int .i64 m'.kind, .int .i64 m'.a, .int .i64 m'.b, .slice A12 n12 c12] 30))
      clear hc12 hq
      have z0 : (w12.alloc (.cells #[.int .i64 m'.kind, .int .i64 m'.a, .int .i64 m'.b, .slice A12 n12 c12] 30)).cell? ⟨w11.heap.size, 0, none⟩ = some (.int .i64 0) := (cellAt BB.out 0).trans rfl
      have z1 : (w12.alloc (.cells #[.int .i64 m'.kind, .int .i64 m'.a, .int .i64 m'.b, .slice A12 n12 c12] 30)).cell? ⟨w11.heap.size, 1, none⟩ = some (.int .i64 0) := (cellAt BB.out 1).trans rfl
      have z2 : (w12.alloc (.cells #[.int .i64 m'.kind, .int .i64 m'.a, .int .i64 m'.b, .slice A12 n12 c12] 30)).cell? ⟨w11.heap.size, 2, none⟩ = some (.int .i64 0) := (cellAt BB.out 2).trans rfl
      have z3 : (w12.alloc (.cells #[.int .i64 m'.kind, .int .i64 m'.a, .int .i64 m'.b, .slice A12 n12 c12] 30)).cell? ⟨w11.heap.size, 3, none⟩ = some (.slice none 0 0) := (cellAt BB.out 3).trans rfl
      go_wp2_with fail
      go_ret
      exact ⟨rfl, HFIN.out _ CB.out⟩
    · have HP := hid hp
      have HOK1 := hid (recR_ok (parseRec_back hp).2.1)
      have hn11 : n11 ≤ 100 := by have := hlog.1; have := HOK1.out.len; omega
      have CT := hid (show Chg (fun _ => False) w (w11.alloc (.cells #[.int .i64 m1.kind, .int .i64 m1.a, .int .i64 m1.b, .slice A11 n11 c11] 24)) from C11.out.alloc _)
      have CT1 := hid (show Chg (fun _ => False) w11 (w11.alloc (.cells #[.int .i64 m1.kind, .int .i64 m1.a, .int .i64 m1.b, .slice A11 n11 c11] 24)) from (Chg.refl _ w11).alloc _)
      have BT := hid (blk_new w11 (.cells #[.int .i64 m1.kind, .int .i64 m1.a, .int .i64 m1.b, .slice A11 n11 c11] 24))
      have HLOG := hid hlog.bound
      clear h11 hp hlog
      go_wp2_with fail
      refine (parserec_any (HBB.out.chg CT.out (fun _ _ h => h)) (by omega)).mono ?_
      rintro e w12 ⟨m', A12, n12, c12, ok, rfl, hq, _, hl12, hc12⟩
      rw [← parseRec_eq, HP.out] at hq
      obtain rfl : ok = true := by
        cases ok with
        | true => rfl
        | false => simp at hq
      obtain rfl : m1 = m' := by simpa using hq
      obtain ⟨wb, hwb⟩ : ∃ wb, wb = w12.alloc (.cells #[.int .i64 m1.kind, .int .i64 m1.a, .int .i64 m1.b, .slice A12 n12 c12] 30) := ⟨_, rfl⟩
      have CB0 := hid (show Chg (fun _ => False) w12 wb by rw [hwb]; exact (Chg.refl _ w12).alloc _)
      have CB := hid ((CT.out.trans hc12 (fun _ h _ => h)).trans CB0.out (fun _ h _ => h))
      have BB := hid (CB0.out.blk (hc12.blk BT.out (fun h => h)) (fun h => h))
      have B5 := hid (show wb.heap[w12.heap.size]? = some (.cells #[.int .i64 m1.kind, .int .i64 m1.a, .int .i64 m1.b, .slice A12 n12 c12] 30 (0, 0)) by rw [hwb]; exact blk_new w12 _)
      have HLB := hid ((((HLOG.out.chg CT1.out (fun _ _ h => h)).chg hc12 (fun _ _ h => h)).chg CB0.out (fun _ _ h => h)))
      have HL3B := hid (hl12.chg CB0.out (fun _ _ h => h))
      have z0 : wb.cell? ⟨w11.heap.size, 0, none⟩ = some (.int .i64 m1.kind) := (cellAt BB.out 0).trans rfl
      have z1 : wb.cell? ⟨w11.heap.size, 1, none⟩ = some (.int .i64 m1.a) := (cellAt BB.out 1).trans rfl
      have z2 : wb.cell? ⟨w11.heap.size, 2, none⟩ = some (.int .i64 m1.b) := (cellAt BB.out 2).trans rfl
      have z3 : wb.cell? ⟨w11.heap.size, 3, none⟩ = some (.slice A11 n11 c11) := (cellAt BB.out 3).trans rfl
      have q0 : wb.cell? ⟨w12.heap.size, 0, none⟩ = some (.int .i64 m1.kind) := (cellAt B5.out 0).trans rfl
      have q1 : wb.cell? ⟨w12.heap.size, 1, none⟩ = some (.int .i64 m1.a) := (cellAt B5.out 1).trans rfl
      have q2 : wb.cell? ⟨w12.heap.size, 2, none⟩ = some (.int .i64 m1.b) := (cellAt B5.out 2).trans rfl
      have q3 : wb.cell? ⟨w12.heap.size, 3, none⟩ = some (.slice A12 n12 c12) := (cellAt B5.out 3).trans rfl
      have HWB := hid hwb
      clear hwb hc12 hq hl12
      go_wp2_with (first | ((with_reducible refine at_dst (N := 93) rfl ?_); rw [← HWB.out]))
      clear HWB z0 q0 z1 q1 z2 q2 z3 q3
      refine (likerec_any (m := m1) (x := m1) HLB.out HL3B.out (by omega) (fun e he => by have := (HOK1.out.log e he).putl; omega)).mono ?_
      rintro e w13 ⟨rfl, hc13⟩
      rw [decide_eq_true (rfl : m1 = m1)]
      have C13 := hid (CB.out.trans hc13 (fun _ h _ => h))
      clear hc13
      go_wp2_with fail
      go_ret
      exact ⟨by simp, HFIN.out _ C13.out⟩
end Go.Proofs.Ytcmfgijdelaelaa.Pa
