/- The walk of the law PackMessages. -/
import Derived.Test.YtcmfgijdelaelaaPackAn
import Derived.Test.YtcmfgijdelaelaaTypesP
namespace Go.Proofs.Ytcmfgijdelaelaa.Pa
set_option linter.unusedVariables false
set_option linter.unusedSimpArgs false
open Go.RowKit Go.Proofs.Ytcmfgijdelaelaa.C
attribute [local go_sem] max2_int min2_int max_two min_two

set_option maxHeartbeats 4000000 in
set_option maxRecDepth 100000 in
theorem PackMessages_walk (w : World) (cs : Array Value) (m : Msg) (h : msgK.K w (fun k => k < w.heap.size) m cs.toList) :
    Calls Try.prog 5 #[.agg cs] w fun e w' => e = .returned (.bool true) ∧ Below w.heap.size w w' := by
  obtain ⟨A, n, c, rfl, hl⟩ := msg_open h
  have HL := hid hl
  obtain ⟨w0, hw0⟩ : ∃ w0, w0 = w.alloc (.cells #[.int .i64 m.kind, .int .i64 m.view, .int .i64 m.src, .int .i64 m.dst, .int .i64 m.op, .int .i64 m.commit, .int .i64 m.normal, .slice A n c] 43) := ⟨_, rfl⟩
  have C0 := hid (show Chg (fun _ => False) w w0 by rw [hw0]; exact (Chg.refl _ w).alloc _)
  have B0 := hid (show w0.heap[w.heap.size]? = some (.cells #[.int .i64 m.kind, .int .i64 m.view, .int .i64 m.src, .int .i64 m.dst, .int .i64 m.op, .int .i64 m.commit, .int .i64 m.normal, .slice A n c] 43 (0, 0)) by rw [hw0]; exact blk_new w _)
  have HFIN := hid (fun (w' : World) (hc : Chg (fun _ => False) w w') => (show Below w.heap.size w w' from hc.below (Nat.le_refl _) (fun _ h => h.elim)))
  clear h hl
  go_enter Try.func5, Try.ntmps5
  go_wp2_with fail
  rw [← hw0]
  clear hw0
  refine (anchor_any w0).mono ?_
  rintro e w1 ⟨rfl, h1⟩
  have C1 := hid (C0.out.trans h1 (fun _ h _ => h))
  have B1 := hid (h1.blk B0.out (fun h => h))
  clear h1
  have x7 : w1.cell? ⟨w.heap.size, 7, none⟩ = some (.slice A n c) := (cellAt B1.out 7).trans rfl
  go_wp2_with fail
  clear x7
  refine (small_any (HL.out.chg C1.out (fun _ _ h => h))).mono ?_
  rintro e w2 ⟨rfl, h2⟩
  have C2 := hid (C1.out.trans h2 (fun _ h _ => h))
  have B2 := hid (h2.blk B1.out (fun h => h))
  clear h2
  cases hs : smallR m.log
  · go_wp2_with fail
    go_ret
    exact ⟨rfl, HFIN.out _ C2.out⟩
  have HS := hid hs
  have HPUT := hid (smallR_put hs)
  have hn7 : n ≤ 70 := by have := HL.out.1; have := smallR_len hs; omega
  clear hs
  have x0 : w2.cell? ⟨w.heap.size, 0, none⟩ = some (.int .i64 m.kind) := (cellAt B2.out 0).trans rfl
  have x1 : w2.cell? ⟨w.heap.size, 1, none⟩ = some (.int .i64 m.view) := (cellAt B2.out 1).trans rfl
  have x2 : w2.cell? ⟨w.heap.size, 2, none⟩ = some (.int .i64 m.src) := (cellAt B2.out 2).trans rfl
  have x3 : w2.cell? ⟨w.heap.size, 3, none⟩ = some (.int .i64 m.dst) := (cellAt B2.out 3).trans rfl
  have x4 : w2.cell? ⟨w.heap.size, 4, none⟩ = some (.int .i64 m.op) := (cellAt B2.out 4).trans rfl
  have x5 : w2.cell? ⟨w.heap.size, 5, none⟩ = some (.int .i64 m.commit) := (cellAt B2.out 5).trans rfl
  have x6 : w2.cell? ⟨w.heap.size, 6, none⟩ = some (.int .i64 m.normal) := (cellAt B2.out 6).trans rfl
  have x7 : w2.cell? ⟨w.heap.size, 7, none⟩ = some (.slice A n c) := (cellAt B2.out 7).trans rfl
  go_wp2_with fail
  clear x0 x1 x2 x3 x4 x5 x6 x7
  refine (mademsg_any (m := m) (HL.out.chg C2.out (fun _ _ h => h)) (by omega) HPUT.out).mono ?_
  rintro e w3 ⟨A3, c3, rfl, hat, h3⟩
  obtain ⟨wa, hwa⟩ : ∃ wa, wa = w3.alloc (.cells #[.int .i64 m.kind, .int .i64 m.view, .int .i64 m.src, .int .i64 m.dst, .int .i64 m.op, .int .i64 m.commit, .int .i64 m.normal, .slice A3 m.log.length c3] 47) := ⟨_, rfl⟩
  have CA0 := hid (show Chg (fun _ => False) w3 wa by rw [hwa]; exact (Chg.refl _ w3).alloc _)
  have CA := hid ((C2.out.trans h3 (fun _ h _ => h)).trans CA0.out (fun _ h _ => h))
  have BA := hid (CA0.out.blk (h3.blk B2.out (fun h => h)) (fun h => h))
  have RA := hid (show wa.heap[w3.heap.size]? = some (.cells #[.int .i64 m.kind, .int .i64 m.view, .int .i64 m.src, .int .i64 m.dst, .int .i64 m.op, .int .i64 m.commit, .int .i64 m.normal, .slice A3 m.log.length c3] 47 (0, 0)) by rw [hwa]; exact blk_new w3 _)
  have HRA := hid (hat.bound.chg CA0.out (fun _ _ h => h))
  have HWA := hid hwa
  clear hwa hat h3
  have x0 : wa.cell? ⟨w.heap.size, 0, none⟩ = some (.int .i64 m.kind) := (cellAt BA.out 0).trans rfl
  have x1 : wa.cell? ⟨w.heap.size, 1, none⟩ = some (.int .i64 m.view) := (cellAt BA.out 1).trans rfl
  have x2 : wa.cell? ⟨w.heap.size, 2, none⟩ = some (.int .i64 m.src) := (cellAt BA.out 2).trans rfl
  have x3 : wa.cell? ⟨w.heap.size, 3, none⟩ = some (.int .i64 m.dst) := (cellAt BA.out 3).trans rfl
  have x4 : wa.cell? ⟨w.heap.size, 4, none⟩ = some (.int .i64 m.op) := (cellAt BA.out 4).trans rfl
  have x5 : wa.cell? ⟨w.heap.size, 5, none⟩ = some (.int .i64 m.commit) := (cellAt BA.out 5).trans rfl
  have x6 : wa.cell? ⟨w.heap.size, 6, none⟩ = some (.int .i64 m.normal) := (cellAt BA.out 6).trans rfl
  have x7 : wa.cell? ⟨w.heap.size, 7, none⟩ = some (.slice A n c) := (cellAt BA.out 7).trans rfl
  go_wp2_with (first | ((with_reducible refine at_dst (N := 28) rfl ?_); rw [← HWA.out]) | ((with_reducible refine at_dst (N := 18) rfl ?_); rw [← HWA.out]))
  clear HWA x0 x1 x2 x3 x4 x5 x6 x7
  refine (encode_any (m := m) (HL.out.chg CA.out (fun _ _ h => h))).mono ?_
  rintro e w4 ⟨h4, he⟩
  have C4 := hid (CA.out.trans h4 (fun _ h _ => h))
  have B4 := hid (h4.blk BA.out (fun h => h))
  have R4 := hid (h4.blk RA.out (fun h => h))
  have HR4 := hid (HRA.out.chg h4 (fun _ _ h => h))
  have HE := hid he
  obtain ⟨v4, code, hev⟩ : ∃ v code, e = .returned (.tuple #[v, .int .i64 code]) := by
    rcases he with ⟨_, rfl⟩ | ⟨_, _, rfl⟩ | ⟨_, _, _, _, rfl, _⟩ <;> exact ⟨_, _, rfl⟩
  subst hev
  clear h4 he
  have x0 : ∀ wx, Chg (fun _ => False) w4 wx → wx.cell? ⟨w.heap.size, 0, none⟩ = some (.int .i64 m.kind) := fun wx hx => (cellAt (hx.blk B4.out (fun h => h)) 0).trans rfl
  have x1 : ∀ wx, Chg (fun _ => False) w4 wx → wx.cell? ⟨w.heap.size, 1, none⟩ = some (.int .i64 m.view) := fun wx hx => (cellAt (hx.blk B4.out (fun h => h)) 1).trans rfl
  have x2 : ∀ wx, Chg (fun _ => False) w4 wx → wx.cell? ⟨w.heap.size, 2, none⟩ = some (.int .i64 m.src) := fun wx hx => (cellAt (hx.blk B4.out (fun h => h)) 2).trans rfl
  have x3 : ∀ wx, Chg (fun _ => False) w4 wx → wx.cell? ⟨w.heap.size, 3, none⟩ = some (.int .i64 m.dst) := fun wx hx => (cellAt (hx.blk B4.out (fun h => h)) 3).trans rfl
  have x4 : ∀ wx, Chg (fun _ => False) w4 wx → wx.cell? ⟨w.heap.size, 4, none⟩ = some (.int .i64 m.op) := fun wx hx => (cellAt (hx.blk B4.out (fun h => h)) 4).trans rfl
  have x5 : ∀ wx, Chg (fun _ => False) w4 wx → wx.cell? ⟨w.heap.size, 5, none⟩ = some (.int .i64 m.commit) := fun wx hx => (cellAt (hx.blk B4.out (fun h => h)) 5).trans rfl
  have x6 : ∀ wx, Chg (fun _ => False) w4 wx → wx.cell? ⟨w.heap.size, 6, none⟩ = some (.int .i64 m.normal) := fun wx hx => (cellAt (hx.blk B4.out (fun h => h)) 6).trans rfl
  have x7 : ∀ wx, Chg (fun _ => False) w4 wx → wx.cell? ⟨w.heap.size, 7, none⟩ = some (.slice A n c) := fun wx hx => (cellAt (hx.blk B4.out (fun h => h)) 7).trans rfl
  have r0 : ∀ wx, Chg (fun _ => False) w4 wx → wx.cell? ⟨w3.heap.size, 0, none⟩ = some (.int .i64 m.kind) := fun wx hx => (cellAt (hx.blk R4.out (fun h => h)) 0).trans rfl
  have r1 : ∀ wx, Chg (fun _ => False) w4 wx → wx.cell? ⟨w3.heap.size, 1, none⟩ = some (.int .i64 m.view) := fun wx hx => (cellAt (hx.blk R4.out (fun h => h)) 1).trans rfl
  have r2 : ∀ wx, Chg (fun _ => False) w4 wx → wx.cell? ⟨w3.heap.size, 2, none⟩ = some (.int .i64 m.src) := fun wx hx => (cellAt (hx.blk R4.out (fun h => h)) 2).trans rfl
  have r3 : ∀ wx, Chg (fun _ => False) w4 wx → wx.cell? ⟨w3.heap.size, 3, none⟩ = some (.int .i64 m.dst) := fun wx hx => (cellAt (hx.blk R4.out (fun h => h)) 3).trans rfl
  have r4 : ∀ wx, Chg (fun _ => False) w4 wx → wx.cell? ⟨w3.heap.size, 4, none⟩ = some (.int .i64 m.op) := fun wx hx => (cellAt (hx.blk R4.out (fun h => h)) 4).trans rfl
  have r5 : ∀ wx, Chg (fun _ => False) w4 wx → wx.cell? ⟨w3.heap.size, 5, none⟩ = some (.int .i64 m.commit) := fun wx hx => (cellAt (hx.blk R4.out (fun h => h)) 5).trans rfl
  have r6 : ∀ wx, Chg (fun _ => False) w4 wx → wx.cell? ⟨w3.heap.size, 6, none⟩ = some (.int .i64 m.normal) := fun wx hx => (cellAt (hx.blk R4.out (fun h => h)) 6).trans rfl
  have r7 : ∀ wx, Chg (fun _ => False) w4 wx → wx.cell? ⟨w3.heap.size, 7, none⟩ = some (.slice A3 m.log.length c3) := fun wx hx => (cellAt (hx.blk R4.out (fun h => h)) 7).trans rfl
  go_wp2_with fail
  refine wpB_start (fun wx : World => Chg (fun _ => False) w4 wx) (by kernel_rfl) ?_
  have hHeld : (fun wx : World => Chg (fun _ => False) w4 wx) _ := (by first | assumption | exact Chg.drew (Chg.refl _ _) | (show _ ∧ _; refine ⟨?_, ?_⟩ <;> assumption) | (first | (with_reducible exact hHeld.trans HZ2.out (fun _ h _ => h)) | (with_reducible exact hHeld.trans HZ.out (fun _ h _ => h))))
  -- 0: t22 := load 43 t1 : 43
  refine wpB_take (i := 0) (v := ?_) (get_of_drop rfl) (by kernel_rfl) (by kernel_rfl) (by kernel_rfl) (by kernel_rfl) (fun _ _ _ h => h) (Or.inl ⟨by rfl, ?_⟩) hHeld ?_
  rotate_left
  · (intro w hSw; (try dsimp only at hSw); go_simp <;> with_reducible rfl)
  try simp only [Act.put, List.setIfInBounds_toArray, List.set_cons_zero, List.set_cons_succ]
  -- 2: t24 := load 47 t3 : 47
  refine wpB_take (i := 2) (v := ?_) (get_of_drop rfl) (by kernel_rfl) (by kernel_rfl) (by kernel_rfl) (by kernel_rfl) (fun _ _ _ h => h) (Or.inl ⟨by rfl, ?_⟩) hHeld ?_
  rotate_left
  · (intro w hSw; (try dsimp only at hSw); go_simp <;> with_reducible rfl)
  try simp only [Act.put, List.setIfInBounds_toArray, List.set_cons_zero, List.set_cons_succ]
  -- 1: t23 := CALL fn23(t22) : 4
  refine wpB_act (i := 1) (by kernel_rfl) (get_of_drop rfl) (fun K hK => ?_)
  go_simp
  refine (msgright_any (m := m) ((HL.out.chg C4.out (fun _ _ h => h)).chg (Chg.refl (fun _ => False) w4).drew (fun _ _ h => h))).mono ?_
  rintro e wy ⟨rfl, hy⟩
  have HZ := hid hy
  clear hy
  refine hK.out _ _ ?_ (fun hHeld2 => ?_)
  · (first | (with_reducible exact hHeld.trans HZ2.out (fun _ h _ => h)) | (with_reducible exact hHeld.trans HZ.out (fun _ h _ => h)))
  clear hHeld hK K
  have hHeld := hHeld2
  clear hHeld2
  try simp only [Act.put, List.setIfInBounds_toArray, List.set_cons_zero, List.set_cons_succ]
  -- 3: t25 := CALL fn24(t24) : 4 (BARRIER)
  refine wpB_bar (i := 3) (by kernel_rfl) (get_of_drop rfl) (by kernel_rfl) (fun K hK => ?_)
  go_simp
  refine (refmsgright_any (m := m) ((HR4.out.chg (Chg.refl (fun _ => False) w4).drew (fun _ _ h => h)).chg HZ.out (fun _ _ h => h))).mono ?_
  rintro e wz ⟨rfl, hz⟩
  have HZ2 := hid hz
  clear hz
  refine hK.out _ _ (fun _ : World => True) ?_
  clear hHeld hK K
  have hHeld := trivial
  try simp only [Act.put, List.setIfInBounds_toArray, List.set_cons_zero, List.set_cons_succ]
  -- 4: t26 := binOp BinOp.neq 4 t23 t25 4 : 4
  refine wpB_take (i := 4) (v := ?_) (get_of_drop rfl) (by kernel_rfl) (by kernel_rfl) (by kernel_rfl) (by kernel_rfl) (fun _ _ _ h => h) (Or.inl ⟨by rfl, ?_⟩) hHeld ?_
  rotate_left
  · (intro w hSw; (try dsimp only at hSw); go_simp <;> with_reducible rfl)
  try simp only [Act.put, List.setIfInBounds_toArray, List.set_cons_zero, List.set_cons_succ]
  refine wpB_done (by kernel_rfl) ?_ _
  replace hHeld : Chg (fun _ => False) w4 wz := ((Chg.refl (fun _ => False) w4).drew.trans HZ.out (fun _ h _ => h)).trans HZ2.out (fun _ h _ => h)
  have CZ := hid hHeld
  have C5 := hid (C4.out.trans hHeld (fun _ h _ => h))
  have B5 := hid (hHeld.blk B4.out (fun h => h))
  have R5 := hid (hHeld.blk R4.out (fun h => h))
  have HR5 := hid (HR4.out.chg hHeld (fun _ _ h => h))
  clear hHeld x0 r0 x1 r1 x2 r2 x3 r3 x4 r4 x5 r5 x6 r6 x7 r7
  have r0 : wz.cell? ⟨w3.heap.size, 0, none⟩ = some (.int .i64 m.kind) := (cellAt R5.out 0).trans rfl
  have r1 : wz.cell? ⟨w3.heap.size, 1, none⟩ = some (.int .i64 m.view) := (cellAt R5.out 1).trans rfl
  have r2 : wz.cell? ⟨w3.heap.size, 2, none⟩ = some (.int .i64 m.src) := (cellAt R5.out 2).trans rfl
  have r3 : wz.cell? ⟨w3.heap.size, 3, none⟩ = some (.int .i64 m.dst) := (cellAt R5.out 3).trans rfl
  have r4 : wz.cell? ⟨w3.heap.size, 4, none⟩ = some (.int .i64 m.op) := (cellAt R5.out 4).trans rfl
  have r5 : wz.cell? ⟨w3.heap.size, 5, none⟩ = some (.int .i64 m.commit) := (cellAt R5.out 5).trans rfl
  have r6 : wz.cell? ⟨w3.heap.size, 6, none⟩ = some (.int .i64 m.normal) := (cellAt R5.out 6).trans rfl
  have r7 : wz.cell? ⟨w3.heap.size, 7, none⟩ = some (.slice A3 m.log.length c3) := (cellAt R5.out 7).trans rfl
  go_wp2_with fail
  clear r0 r1 r2 r3 r4 r5 r6 r7
  refine (refmsgright_any (m := m) HR5.out).mono ?_
  rintro e w6 ⟨rfl, h6⟩
  have C6 := hid (C5.out.trans h6 (fun _ h _ => h))
  have CZ6 := hid (CZ.out.trans h6 (fun _ h _ => h))
  have R6 := hid (h6.blk R5.out (fun h => h))
  have HR6 := hid (HR5.out.chg h6 (fun _ _ h => h))
  clear h6
  rcases HE.out with ⟨hr, hv⟩ | ⟨hr, hlen, hv⟩ | ⟨hr, hlen, A', c', hv, hby⟩
  · injection hv with hv
    simp at hv
    obtain ⟨rfl, rfl⟩ := hv
    rw [hr]
    clear hr
    go_wp2_with fail
    go_ret
    exact ⟨rfl, HFIN.out _ C6.out⟩
  · injection hv with hv
    simp at hv
    obtain ⟨rfl, rfl⟩ := hv
    have HOK := hid (msgR_ok hr)
    have HLEN := hid hlen
    rw [hr]
    clear hr hlen
    have r0 : w6.cell? ⟨w3.heap.size, 0, none⟩ = some (.int .i64 m.kind) := (cellAt R6.out 0).trans rfl
    have r1 : w6.cell? ⟨w3.heap.size, 1, none⟩ = some (.int .i64 m.view) := (cellAt R6.out 1).trans rfl
    have r2 : w6.cell? ⟨w3.heap.size, 2, none⟩ = some (.int .i64 m.src) := (cellAt R6.out 2).trans rfl
    have r3 : w6.cell? ⟨w3.heap.size, 3, none⟩ = some (.int .i64 m.dst) := (cellAt R6.out 3).trans rfl
    have r4 : w6.cell? ⟨w3.heap.size, 4, none⟩ = some (.int .i64 m.op) := (cellAt R6.out 4).trans rfl
    have r5 : w6.cell? ⟨w3.heap.size, 5, none⟩ = some (.int .i64 m.commit) := (cellAt R6.out 5).trans rfl
    have r6 : w6.cell? ⟨w3.heap.size, 6, none⟩ = some (.int .i64 m.normal) := (cellAt R6.out 6).trans rfl
    have r7 : w6.cell? ⟨w3.heap.size, 7, none⟩ = some (.slice A3 m.log.length c3) := (cellAt R6.out 7).trans rfl
    go_wp2_with fail
    clear r0 r1 r2 r3 r4 r5 r6 r7
    refine (refmsgbytes_any HR6.out HOK.out).mono ?_
    rintro e w7 ⟨v7, rfl, h7⟩
    obtain ⟨A7, c7, rfl⟩ := h7.byt.form
    have C7 := hid (C6.out.trans h7.chg (fun _ h _ => h))
    have hl7 : (65536 : Int) < ((msgB m).length : Int) := by have := HLEN.out; omega
    clear h7
    go_wp2_with fail
    go_ret
    exact ⟨rfl, HFIN.out _ C7.out⟩
  · injection hv with hv
    simp at hv
    obtain ⟨rfl, rfl⟩ := hv
    have HOK := hid (msgR_ok hr)
    have HLEN := hid hlen
    have HPB := hid (parseMsg_bytes hr hlen)
    have HBY := hid (hby.bound.chg CZ6.out (fun _ _ h => h))
    rw [hr]
    clear hr hlen hby
    have r0 : w6.cell? ⟨w3.heap.size, 0, none⟩ = some (.int .i64 m.kind) := (cellAt R6.out 0).trans rfl
    have r1 : w6.cell? ⟨w3.heap.size, 1, none⟩ = some (.int .i64 m.view) := (cellAt R6.out 1).trans rfl
    have r2 : w6.cell? ⟨w3.heap.size, 2, none⟩ = some (.int .i64 m.src) := (cellAt R6.out 2).trans rfl
    have r3 : w6.cell? ⟨w3.heap.size, 3, none⟩ = some (.int .i64 m.dst) := (cellAt R6.out 3).trans rfl
    have r4 : w6.cell? ⟨w3.heap.size, 4, none⟩ = some (.int .i64 m.op) := (cellAt R6.out 4).trans rfl
    have r5 : w6.cell? ⟨w3.heap.size, 5, none⟩ = some (.int .i64 m.commit) := (cellAt R6.out 5).trans rfl
    have r6 : w6.cell? ⟨w3.heap.size, 6, none⟩ = some (.int .i64 m.normal) := (cellAt R6.out 6).trans rfl
    have r7 : w6.cell? ⟨w3.heap.size, 7, none⟩ = some (.slice A3 m.log.length c3) := (cellAt R6.out 7).trans rfl
    go_wp2_with fail
    clear r0 r1 r2 r3 r4 r5 r6 r7
    refine (refmsgbytes_any HR6.out HOK.out).mono ?_
    rintro e w7 ⟨v7, rfl, h7⟩
    obtain ⟨A7, c7, rfl⟩ := h7.byt.form
    obtain ⟨L, hL⟩ : ∃ L, (msgB m).length = L := ⟨_, rfl⟩
    rw [hL] at h7 HBY HLEN ⊢
    clear hL
    have HB7 := hid h7.byt
    have C7 := hid (C6.out.trans h7.chg (fun _ h _ => h))
    have C67 := hid h7.chg
    have R7 := hid (h7.chg.blk R6.out (fun h => h))
    have hl7 : ¬ (65536 : Int) < (L : Int) := by have := HLEN.out; omega
    clear h7
    go_wp2_with fail
    refine (decode_any (HBY.out.chg C67.out (fun _ _ h => h)).at (by have := HLEN.out; omega)).mono ?_
    rintro e w8 ⟨h8, hd⟩
    rcases hd with ⟨hd, _⟩ | ⟨m', A9, n9, c9, hd, rfl, _, hlog⟩
    · rw [HPB.out] at hd
      cases hd
    obtain rfl : m = m' := by rw [HPB.out] at hd; injection hd
    obtain ⟨wd, hwd⟩ : ∃ wd, wd = w8.alloc (.cells #[.int .i64 m.kind, .int .i64 m.view, .int .i64 m.src, .int .i64 m.dst, .int .i64 m.op, .int .i64 m.commit, .int .i64 m.normal, .slice A9 n9 c9] 43) := ⟨_, rfl⟩
    have CD0 := hid (show Chg (fun _ => False) w8 wd by rw [hwd]; exact (Chg.refl _ w8).alloc _)
    have C78 := hid (show Chg (fun _ => False) w7 wd from h8.trans CD0.out (fun _ h _ => h))
    have CD := hid (C7.out.trans C78.out (fun _ h _ => h))
    have DD := hid (show wd.heap[w8.heap.size]? = some (.cells #[.int .i64 m.kind, .int .i64 m.view, .int .i64 m.src, .int .i64 m.dst, .int .i64 m.op, .int .i64 m.commit, .int .i64 m.normal, .slice A9 n9 c9] 43 (0, 0)) by rw [hwd]; exact blk_new w8 _)
    have RD := hid (C78.out.blk R7.out (fun h => h))
    have HLD := hid (hlog.chg CD0.out (fun _ _ h => h))
    have HRD := hid ((HR6.out.chg C67.out (fun _ _ h => h)).chg C78.out (fun _ _ h => h))
    have hs1 := HBY.out.str (C67.out.trans C78.out (fun _ h _ => h)) (fun _ _ h => h)
    have hs2 := HB7.out.str C78.out (fun _ _ h => h)
    have hn9 : n9 ≤ 100 := by have := hlog.1; have := HOK.out.len; omega
    have HWD := hid hwd
    clear hwd h8 hd hlog
    have x0 : wd.cell? ⟨w8.heap.size, 0, none⟩ = some (.int .i64 m.kind) := (cellAt DD.out 0).trans rfl
    have x1 : wd.cell? ⟨w8.heap.size, 1, none⟩ = some (.int .i64 m.view) := (cellAt DD.out 1).trans rfl
    have x2 : wd.cell? ⟨w8.heap.size, 2, none⟩ = some (.int .i64 m.src) := (cellAt DD.out 2).trans rfl
    have x3 : wd.cell? ⟨w8.heap.size, 3, none⟩ = some (.int .i64 m.dst) := (cellAt DD.out 3).trans rfl
    have x4 : wd.cell? ⟨w8.heap.size, 4, none⟩ = some (.int .i64 m.op) := (cellAt DD.out 4).trans rfl
    have x5 : wd.cell? ⟨w8.heap.size, 5, none⟩ = some (.int .i64 m.commit) := (cellAt DD.out 5).trans rfl
    have x6 : wd.cell? ⟨w8.heap.size, 6, none⟩ = some (.int .i64 m.normal) := (cellAt DD.out 6).trans rfl
    have x7 : wd.cell? ⟨w8.heap.size, 7, none⟩ = some (.slice A9 n9 c9) := (cellAt DD.out 7).trans rfl
    have r0 : wd.cell? ⟨w3.heap.size, 0, none⟩ = some (.int .i64 m.kind) := (cellAt RD.out 0).trans rfl
    have r1 : wd.cell? ⟨w3.heap.size, 1, none⟩ = some (.int .i64 m.view) := (cellAt RD.out 1).trans rfl
    have r2 : wd.cell? ⟨w3.heap.size, 2, none⟩ = some (.int .i64 m.src) := (cellAt RD.out 2).trans rfl
    have r3 : wd.cell? ⟨w3.heap.size, 3, none⟩ = some (.int .i64 m.dst) := (cellAt RD.out 3).trans rfl
    have r4 : wd.cell? ⟨w3.heap.size, 4, none⟩ = some (.int .i64 m.op) := (cellAt RD.out 4).trans rfl
    have r5 : wd.cell? ⟨w3.heap.size, 5, none⟩ = some (.int .i64 m.commit) := (cellAt RD.out 5).trans rfl
    have r6 : wd.cell? ⟨w3.heap.size, 6, none⟩ = some (.int .i64 m.normal) := (cellAt RD.out 6).trans rfl
    have r7 : wd.cell? ⟨w3.heap.size, 7, none⟩ = some (.slice A3 m.log.length c3) := (cellAt RD.out 7).trans rfl
    go_wp2_with (first | ((with_reducible refine at_dst (N := 58) rfl ?_); rw [← HWD.out]))
    clear HWD
    refine (likemsg_any (m := m) (x := m) HLD.out HRD.out (by omega) (fun e he => by have := (HOK.out.log e he).putl; omega)).mono ?_
    rintro e w10 ⟨rfl, h10⟩
    rw [decide_eq_true (rfl : m = m)]
    have CE := hid (CD.out.trans h10 (fun _ h _ => h))
    clear h10 x0 r0 x1 r1 x2 r2 x3 r3 x4 r4 x5 r5 x6 r6 x7 r7 hs1 hs2
    go_wp2_with fail
    go_ret
    exact ⟨by simp, HFIN.out _ CE.out⟩
end Go.Proofs.Ytcmfgijdelaelaa.Pa
