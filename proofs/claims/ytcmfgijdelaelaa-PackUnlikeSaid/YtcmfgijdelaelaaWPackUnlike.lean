/- The walk of the law PackUnlike. -/
import Derived.Test.YtcmfgijdelaelaaPackAn
import Derived.Test.YtcmfgijdelaelaaTypesP
namespace Go.Proofs.Ytcmfgijdelaelaa.Pa
set_option linter.unusedVariables false
set_option linter.unusedSimpArgs false
open Go.RowKit Go.Proofs.Ytcmfgijdelaelaa.C
attribute [local go_sem] max2_int min2_int max_two min_two

set_option maxHeartbeats 4000000 in
set_option maxRecDepth 100000 in
theorem PackUnlike_walk (w : World) (cs : Array Value) (m : Msg) (h : msgK.K w (fun k => k < w.heap.size) m cs.toList) (cs' : Array Value) (x : Msg) (h' : msgK.K w (fun k => k < w.heap.size) x cs'.toList) :
    Calls Try.prog 4 #[.agg cs, .agg cs'] w fun e w' => e = .returned (.bool true) ∧ Below w.heap.size w w' := by
  obtain ⟨A, n, c, rfl, hl⟩ := msg_open h
  obtain ⟨B, k, d, rfl, hx⟩ := msg_open h'
  have HL := hid hl
  have HX := hid hx
  obtain ⟨w0, hw0⟩ : ∃ w0, w0 = (w.alloc (.cells #[.int .i64 m.kind, .int .i64 m.view, .int .i64 m.src, .int .i64 m.dst, .int .i64 m.op, .int .i64 m.commit, .int .i64 m.normal, .slice A n c] 43)).alloc (.cells #[.int .i64 x.kind, .int .i64 x.view, .int .i64 x.src, .int .i64 x.dst, .int .i64 x.op, .int .i64 x.commit, .int .i64 x.normal, .slice B k d] 43) := ⟨_, rfl⟩
  have C0 := hid (show Chg (fun _ => False) w w0 by rw [hw0]; exact ((Chg.refl _ w).alloc _).alloc _)
  have B0 := hid (show w0.heap[w.heap.size]? = some (.cells #[.int .i64 m.kind, .int .i64 m.view, .int .i64 m.src, .int .i64 m.dst, .int .i64 m.op, .int .i64 m.commit, .int .i64 m.normal, .slice A n c] 43 (0, 0)) by rw [hw0]; exact blk_alloc (blk_new w _) _)
  have X0 := hid (show w0.heap[w.heap.size + 1]? = some (.cells #[.int .i64 x.kind, .int .i64 x.view, .int .i64 x.src, .int .i64 x.dst, .int .i64 x.op, .int .i64 x.commit, .int .i64 x.normal, .slice B k d] 43 (0, 0)) by
    rw [hw0]
    have := blk_new (w.alloc (.cells #[.int .i64 m.kind, .int .i64 m.view, .int .i64 m.src, .int .i64 m.dst, .int .i64 m.op, .int .i64 m.commit, .int .i64 m.normal, .slice A n c] 43)) (.cells #[.int .i64 x.kind, .int .i64 x.view, .int .i64 x.src, .int .i64 x.dst, .int .i64 x.op, .int .i64 x.commit, .int .i64 x.normal, .slice B k d] 43)
    simpa using this)
  have HFIN := hid (fun (w' : World) (hc : Chg (fun _ => False) w w') => (show Below w.heap.size w w' from hc.below (Nat.le_refl _) (fun _ h => h.elim)))
  clear h h' hl hx
  go_enter Try.func4, Try.ntmps4
  go_wp2_with fail
  rw [← hw0]
  clear hw0
  refine (anchor_any w0).mono ?_
  rintro e w1 ⟨rfl, h1⟩
  have C1 := hid (C0.out.trans h1 (fun _ h _ => h))
  have B1 := hid (h1.blk B0.out (fun h => h))
  have X1 := hid (h1.blk X0.out (fun h => h))
  clear h1
  have x7 : w1.cell? ⟨w.heap.size, 7, none⟩ = some (.slice A n c) := (cellAt B1.out 7).trans rfl
  go_wp2_with fail
  clear x7
  refine (small_any (HL.out.chg C1.out (fun _ _ h => h))).mono ?_
  rintro e w2 ⟨rfl, h2⟩
  have C2 := hid (C1.out.trans h2 (fun _ h _ => h))
  have B2 := hid (h2.blk B1.out (fun h => h))
  have X2 := hid (h2.blk X1.out (fun h => h))
  clear h2
  cases hs : smallR m.log
  · go_wp2_with fail
    go_ret
    exact ⟨rfl, HFIN.out _ C2.out⟩
  have HPUT := hid (smallR_put hs)
  have hn7 : n ≤ 70 := by have := HL.out.1; have := smallR_len hs; omega
  clear hs
  have y7 : w2.cell? ⟨w.heap.size + 1, 7, none⟩ = some (.slice B k d) := (cellAt X2.out 7).trans rfl
  go_wp2_with fail
  clear y7
  refine (small_any (HX.out.chg C2.out (fun _ _ h => h))).mono ?_
  rintro e w3 ⟨rfl, h3⟩
  have C3 := hid (C2.out.trans h3 (fun _ h _ => h))
  have B3 := hid (h3.blk B2.out (fun h => h))
  have X3 := hid (h3.blk X2.out (fun h => h))
  clear h3
  cases hs : smallR x.log
  · go_wp2_with fail
    go_ret
    exact ⟨rfl, HFIN.out _ C3.out⟩
  have HPUTX := hid (smallR_put hs)
  have hk7 : k ≤ 70 := by have := HX.out.1; have := smallR_len hs; omega
  clear hs
  have x0 : w3.cell? ⟨w.heap.size, 0, none⟩ = some (.int .i64 m.kind) := (cellAt B3.out 0).trans rfl
  have x1 : w3.cell? ⟨w.heap.size, 1, none⟩ = some (.int .i64 m.view) := (cellAt B3.out 1).trans rfl
  have x2 : w3.cell? ⟨w.heap.size, 2, none⟩ = some (.int .i64 m.src) := (cellAt B3.out 2).trans rfl
  have x3 : w3.cell? ⟨w.heap.size, 3, none⟩ = some (.int .i64 m.dst) := (cellAt B3.out 3).trans rfl
  have x4 : w3.cell? ⟨w.heap.size, 4, none⟩ = some (.int .i64 m.op) := (cellAt B3.out 4).trans rfl
  have x5 : w3.cell? ⟨w.heap.size, 5, none⟩ = some (.int .i64 m.commit) := (cellAt B3.out 5).trans rfl
  have x6 : w3.cell? ⟨w.heap.size, 6, none⟩ = some (.int .i64 m.normal) := (cellAt B3.out 6).trans rfl
  have x7 : w3.cell? ⟨w.heap.size, 7, none⟩ = some (.slice A n c) := (cellAt B3.out 7).trans rfl
  go_wp2_with fail
  clear x0 x1 x2 x3 x4 x5 x6 x7
  refine (encode_any (m := m) (HL.out.chg C3.out (fun _ _ h => h))).mono ?_
  rintro e w4 ⟨h4, he⟩
  have C4 := hid (C3.out.trans h4 (fun _ h _ => h))
  have B4 := hid (h4.blk B3.out (fun h => h))
  have X4 := hid (h4.blk X3.out (fun h => h))
  have HE := hid he
  obtain ⟨v4, code, hev⟩ : ∃ v code, e = .returned (.tuple #[v, .int .i64 code]) := by
    rcases he with ⟨_, rfl⟩ | ⟨_, _, rfl⟩ | ⟨_, _, _, _, rfl, _⟩ <;> exact ⟨_, _, rfl⟩
  subst hev
  clear h4 he
  have y0 : w4.cell? ⟨w.heap.size + 1, 0, none⟩ = some (.int .i64 x.kind) := (cellAt X4.out 0).trans rfl
  have y1 : w4.cell? ⟨w.heap.size + 1, 1, none⟩ = some (.int .i64 x.view) := (cellAt X4.out 1).trans rfl
  have y2 : w4.cell? ⟨w.heap.size + 1, 2, none⟩ = some (.int .i64 x.src) := (cellAt X4.out 2).trans rfl
  have y3 : w4.cell? ⟨w.heap.size + 1, 3, none⟩ = some (.int .i64 x.dst) := (cellAt X4.out 3).trans rfl
  have y4 : w4.cell? ⟨w.heap.size + 1, 4, none⟩ = some (.int .i64 x.op) := (cellAt X4.out 4).trans rfl
  have y5 : w4.cell? ⟨w.heap.size + 1, 5, none⟩ = some (.int .i64 x.commit) := (cellAt X4.out 5).trans rfl
  have y6 : w4.cell? ⟨w.heap.size + 1, 6, none⟩ = some (.int .i64 x.normal) := (cellAt X4.out 6).trans rfl
  have y7 : w4.cell? ⟨w.heap.size + 1, 7, none⟩ = some (.slice B k d) := (cellAt X4.out 7).trans rfl
  go_wp2_with fail
  clear y0 y1 y2 y3 y4 y5 y6 y7
  refine (encode_any (m := x) (HX.out.chg C4.out (fun _ _ h => h))).mono ?_
  rintro e w5 ⟨h5, he⟩
  have C5 := hid (C4.out.trans h5 (fun _ h _ => h))
  have C45 := hid h5
  have B5 := hid (h5.blk B4.out (fun h => h))
  have X5 := hid (h5.blk X4.out (fun h => h))
  clear h5
  rcases HE.out with ⟨hr, hv⟩ | ⟨hr, hlen, hv⟩ | ⟨hr, hlen, A', c', hv, hby⟩
  · injection hv with hv
    simp at hv
    obtain ⟨rfl, rfl⟩ := hv
    clear hr
    rcases he with ⟨_, rfl⟩ | ⟨_, _, rfl⟩ | ⟨_, _, _, _, rfl, _⟩
    all_goals
      go_wp2_with fail
      go_ret
      exact ⟨rfl, HFIN.out _ C5.out⟩
  · injection hv with hv
    simp at hv
    obtain ⟨rfl, rfl⟩ := hv
    clear hr hlen
    rcases he with ⟨_, rfl⟩ | ⟨_, _, rfl⟩ | ⟨_, _, _, _, rfl, _⟩
    all_goals
      go_wp2_with fail
      go_ret
      exact ⟨rfl, HFIN.out _ C5.out⟩
  injection hv with hv
  simp at hv
  obtain ⟨rfl, rfl⟩ := hv
  rcases he with ⟨_, rfl⟩ | ⟨_, _, rfl⟩ | ⟨hr', hlen', A'', c'', rfl, hby'⟩
  · clear hr hlen hby
    go_wp2_with fail
    go_ret
    exact ⟨rfl, HFIN.out _ C5.out⟩
  · clear hr hlen hby
    go_wp2_with fail
    go_ret
    exact ⟨rfl, HFIN.out _ C5.out⟩
  have HINJ := hid (show (bstr (msgB m) = bstr (msgB x)) ↔ m = x from ⟨fun e => msgB_inj hr hr' (bstr_inj e), fun e => by rw [e]⟩)
  have HBY := hid ((hby.chg C45.out (fun _ _ h => h)).bound)
  have HBY' := hid hby'.bound
  clear hr hr' hlen hlen' hby hby'
  have hs1 : ∀ wx, Chg (fun _ => False) w5 wx → (convert 25 9 (.slice A' (msgB m).length c')).run Try.prog wx = .ok (.string (bstr (msgB m))) wx := fun wx hx => HBY.out.str hx (fun _ _ h => h)
  have hs2 : ∀ wx, Chg (fun _ => False) w5 wx → (convert 25 9 (.slice A'' (msgB x).length c'')).run Try.prog wx = .ok (.string (bstr (msgB x))) wx := fun wx hx => HBY'.out.str hx (fun _ _ h => h)
  have x0 : ∀ wx, Chg (fun _ => False) w5 wx → wx.cell? ⟨w.heap.size, 0, none⟩ = some (.int .i64 m.kind) := fun wx hx => (cellAt (hx.blk B5.out (fun h => h)) 0).trans rfl
  have x1 : ∀ wx, Chg (fun _ => False) w5 wx → wx.cell? ⟨w.heap.size, 1, none⟩ = some (.int .i64 m.view) := fun wx hx => (cellAt (hx.blk B5.out (fun h => h)) 1).trans rfl
  have x2 : ∀ wx, Chg (fun _ => False) w5 wx → wx.cell? ⟨w.heap.size, 2, none⟩ = some (.int .i64 m.src) := fun wx hx => (cellAt (hx.blk B5.out (fun h => h)) 2).trans rfl
  have x3 : ∀ wx, Chg (fun _ => False) w5 wx → wx.cell? ⟨w.heap.size, 3, none⟩ = some (.int .i64 m.dst) := fun wx hx => (cellAt (hx.blk B5.out (fun h => h)) 3).trans rfl
  have x4 : ∀ wx, Chg (fun _ => False) w5 wx → wx.cell? ⟨w.heap.size, 4, none⟩ = some (.int .i64 m.op) := fun wx hx => (cellAt (hx.blk B5.out (fun h => h)) 4).trans rfl
  have x5 : ∀ wx, Chg (fun _ => False) w5 wx → wx.cell? ⟨w.heap.size, 5, none⟩ = some (.int .i64 m.commit) := fun wx hx => (cellAt (hx.blk B5.out (fun h => h)) 5).trans rfl
  have x6 : ∀ wx, Chg (fun _ => False) w5 wx → wx.cell? ⟨w.heap.size, 6, none⟩ = some (.int .i64 m.normal) := fun wx hx => (cellAt (hx.blk B5.out (fun h => h)) 6).trans rfl
  have x7 : ∀ wx, Chg (fun _ => False) w5 wx → wx.cell? ⟨w.heap.size, 7, none⟩ = some (.slice A n c) := fun wx hx => (cellAt (hx.blk B5.out (fun h => h)) 7).trans rfl
  have y0 : ∀ wx, Chg (fun _ => False) w5 wx → wx.cell? ⟨w.heap.size + 1, 0, none⟩ = some (.int .i64 x.kind) := fun wx hx => (cellAt (hx.blk X5.out (fun h => h)) 0).trans rfl
  have y1 : ∀ wx, Chg (fun _ => False) w5 wx → wx.cell? ⟨w.heap.size + 1, 1, none⟩ = some (.int .i64 x.view) := fun wx hx => (cellAt (hx.blk X5.out (fun h => h)) 1).trans rfl
  have y2 : ∀ wx, Chg (fun _ => False) w5 wx → wx.cell? ⟨w.heap.size + 1, 2, none⟩ = some (.int .i64 x.src) := fun wx hx => (cellAt (hx.blk X5.out (fun h => h)) 2).trans rfl
  have y3 : ∀ wx, Chg (fun _ => False) w5 wx → wx.cell? ⟨w.heap.size + 1, 3, none⟩ = some (.int .i64 x.dst) := fun wx hx => (cellAt (hx.blk X5.out (fun h => h)) 3).trans rfl
  have y4 : ∀ wx, Chg (fun _ => False) w5 wx → wx.cell? ⟨w.heap.size + 1, 4, none⟩ = some (.int .i64 x.op) := fun wx hx => (cellAt (hx.blk X5.out (fun h => h)) 4).trans rfl
  have y5 : ∀ wx, Chg (fun _ => False) w5 wx → wx.cell? ⟨w.heap.size + 1, 5, none⟩ = some (.int .i64 x.commit) := fun wx hx => (cellAt (hx.blk X5.out (fun h => h)) 5).trans rfl
  have y6 : ∀ wx, Chg (fun _ => False) w5 wx → wx.cell? ⟨w.heap.size + 1, 6, none⟩ = some (.int .i64 x.normal) := fun wx hx => (cellAt (hx.blk X5.out (fun h => h)) 6).trans rfl
  have y7 : ∀ wx, Chg (fun _ => False) w5 wx → wx.cell? ⟨w.heap.size + 1, 7, none⟩ = some (.slice B k d) := fun wx hx => (cellAt (hx.blk X5.out (fun h => h)) 7).trans rfl
  go_wp2_with fail
  refine wpB_start (fun wx : World => Chg (fun _ => False) w5 wx) (by kernel_rfl) ?_
  have hHeld : (fun wx : World => Chg (fun _ => False) w5 wx) _ := (by first | assumption | exact Chg.drew (Chg.refl _ _) | (show _ ∧ _; refine ⟨?_, ?_⟩ <;> assumption) | (first | (with_reducible exact hHeld.trans HZ2.out (fun _ h _ => h)) | (with_reducible exact hHeld.trans HZ.out (fun _ h _ => h))))
  -- 0: t37 := move t5 : 25
  refine wpB_take (i := 0) (v := ?_) (get_of_drop rfl) (by kernel_rfl) (by kernel_rfl) (by kernel_rfl) (by kernel_rfl) (fun _ _ _ h => h) (Or.inl ⟨by rfl, ?_⟩) hHeld ?_
  rotate_left
  · (intro w hSw; (try dsimp only at hSw); go_simp <;> with_reducible rfl)
  try simp only [Act.put, List.setIfInBounds_toArray, List.set_cons_zero, List.set_cons_succ]
  -- 1: t38 := convert 25 9 t37 : 9
  refine wpB_take (i := 1) (v := ?_) (get_of_drop rfl) (by kernel_rfl) (by kernel_rfl) (by kernel_rfl) (by kernel_rfl) (fun _ _ _ h => h) (Or.inl ⟨by rfl, ?_⟩) hHeld ?_
  rotate_left
  · (intro w hSw; (try dsimp only at hSw); go_simp <;> with_reducible rfl)
  try simp only [Act.put, List.setIfInBounds_toArray, List.set_cons_zero, List.set_cons_succ]
  -- 2: t39 := move t7 : 25
  refine wpB_take (i := 2) (v := ?_) (get_of_drop rfl) (by kernel_rfl) (by kernel_rfl) (by kernel_rfl) (by kernel_rfl) (fun _ _ _ h => h) (Or.inl ⟨by rfl, ?_⟩) hHeld ?_
  rotate_left
  · (intro w hSw; (try dsimp only at hSw); go_simp <;> with_reducible rfl)
  try simp only [Act.put, List.setIfInBounds_toArray, List.set_cons_zero, List.set_cons_succ]
  -- 3: t40 := convert 25 9 t39 : 9
  refine wpB_take (i := 3) (v := ?_) (get_of_drop rfl) (by kernel_rfl) (by kernel_rfl) (by kernel_rfl) (by kernel_rfl) (fun _ _ _ h => h) (Or.inl ⟨by rfl, ?_⟩) hHeld ?_
  rotate_left
  · (intro w hSw; (try dsimp only at hSw); go_simp <;> with_reducible rfl)
  try simp only [Act.put, List.setIfInBounds_toArray, List.set_cons_zero, List.set_cons_succ]
  -- 4: t41 := binOp BinOp.eql 9 t38 t40 9 : 4
  refine wpB_take (i := 4) (v := ?_) (get_of_drop rfl) (by kernel_rfl) (by kernel_rfl) (by kernel_rfl) (by kernel_rfl) (fun _ _ _ h => h) (Or.inl ⟨by rfl, ?_⟩) hHeld ?_
  rotate_left
  · (intro w hSw; (try dsimp only at hSw); go_simp <;> with_reducible rfl)
  try simp only [Act.put, List.setIfInBounds_toArray, List.set_cons_zero, List.set_cons_succ]
  -- 5: t42 := load 43 t2 : 43
  refine wpB_take (i := 5) (v := ?_) (get_of_drop rfl) (by kernel_rfl) (by kernel_rfl) (by kernel_rfl) (by kernel_rfl) (fun _ _ _ h => h) (Or.inl ⟨by rfl, ?_⟩) hHeld ?_
  rotate_left
  · (intro w hSw; (try dsimp only at hSw); go_simp <;> with_reducible rfl)
  try simp only [Act.put, List.setIfInBounds_toArray, List.set_cons_zero, List.set_cons_succ]
  -- 6: t43 := load 43 t3 : 43
  refine wpB_take (i := 6) (v := ?_) (get_of_drop rfl) (by kernel_rfl) (by kernel_rfl) (by kernel_rfl) (by kernel_rfl) (fun _ _ _ h => h) (Or.inl ⟨by rfl, ?_⟩) hHeld ?_
  rotate_left
  · (intro w hSw; (try dsimp only at hSw); go_simp <;> with_reducible rfl)
  try simp only [Act.put, List.setIfInBounds_toArray, List.set_cons_zero, List.set_cons_succ]
  -- 7: t44 := CALL fn22(t43) : 47
  refine wpB_act (i := 7) (by kernel_rfl) (get_of_drop rfl) (fun K hK => ?_)
  go_simp
  refine (mademsg_any (m := x) ((HX.out.chg C5.out (fun _ _ h => h)).chg (Chg.refl (fun _ => False) w5).drew (fun _ _ h => h)) (by omega) HPUTX.out).mono ?_
  rintro e wy ⟨A3, c3, rfl, hat, hy⟩
  have HZ := hid hy
  have HM := hid hat.bound
  clear hy hat
  refine hK.out _ _ ?_ (fun hHeld2 => ?_)
  · (first | (with_reducible exact hHeld.trans HZ2.out (fun _ h _ => h)) | (with_reducible exact hHeld.trans HZ.out (fun _ h _ => h)))
  clear hHeld hK K
  have hHeld := hHeld2
  clear hHeld2
  try simp only [Act.put, List.setIfInBounds_toArray, List.set_cons_zero, List.set_cons_succ]
  -- 8: t45 := CALL fn21(t42, t44) : 4
  refine wpB_act (i := 8) (by kernel_rfl) (get_of_drop rfl) (fun K hK => ?_)
  go_simp
  refine (likemsg_any (m := m) (x := x) (((HL.out.chg C5.out (fun _ _ h => h)).chg (Chg.refl (fun _ => False) w5).drew (fun _ _ h => h)).chg HZ.out (fun _ _ h => h)) HM.out (by omega) (fun e he => HPUT.out e he)).mono ?_
  rintro e wz ⟨rfl, hz⟩
  have HZ2 := hid hz
  clear hz
  refine hK.out _ _ ?_ (fun hHeld2 => ?_)
  · (first | (with_reducible exact hHeld.trans HZ2.out (fun _ h _ => h)) | (with_reducible exact hHeld.trans HZ.out (fun _ h _ => h)))
  clear hHeld hK K
  have hHeld := hHeld2
  clear hHeld2
  try simp only [Act.put, List.setIfInBounds_toArray, List.set_cons_zero, List.set_cons_succ]
  -- 9: t46 := binOp BinOp.eql 4 t41 t45 4 : 4
  refine wpB_take (i := 9) (v := ?_) (get_of_drop rfl) (by kernel_rfl) (by kernel_rfl) (by kernel_rfl) (by kernel_rfl) (fun _ _ _ h => h) (Or.inl ⟨by rfl, ?_⟩) hHeld ?_
  rotate_left
  · (intro w hSw; (try dsimp only at hSw); go_simp <;> with_reducible rfl)
  try simp only [Act.put, List.setIfInBounds_toArray, List.set_cons_zero, List.set_cons_succ]
  -- 10: t4 := assign t46 : 4
  refine wpB_take (i := 10) (v := ?_) (get_of_drop rfl) (by kernel_rfl) (by kernel_rfl) (by kernel_rfl) (by kernel_rfl) (fun _ _ _ h => h) (Or.inl ⟨by rfl, ?_⟩) hHeld ?_
  rotate_left
  · (intro w hSw; (try dsimp only at hSw); go_simp <;> with_reducible rfl)
  try simp only [Act.put, List.setIfInBounds_toArray, List.set_cons_zero, List.set_cons_succ]
  refine wpB_done (by kernel_rfl) ?_ _
  have CE := hid (C5.out.trans hHeld (fun _ h _ => h))
  have hb : (((bstr (msgB m)).toList == (bstr (msgB x)).toList) == decide (m = x)) = true := by
    rw [bstr_toList, bstr_toList]
    by_cases e : m = x
    · subst e
      simp
    · have e2 : msgB m ≠ msgB x := fun h => e (HINJ.out.1 (by rw [h]))
      simp [e, e2]
  rw [hb]
  clear hHeld hs1 hs2 hb x0 y0 x1 y1 x2 y2 x3 y3 x4 y4 x5 y5 x6 y6 x7 y7
  go_wp2_with fail
  go_ret
  exact ⟨rfl, HFIN.out _ CE.out⟩
end Go.Proofs.Ytcmfgijdelaelaa.Pa
