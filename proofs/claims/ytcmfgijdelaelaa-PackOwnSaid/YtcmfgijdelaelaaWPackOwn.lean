/- The walk of the law PackOwn. -/
import Derived.Test.YtcmfgijdelaelaaPackAn
import Derived.Test.YtcmfgijdelaelaaTypesP
namespace Go.Proofs.Ytcmfgijdelaelaa.Pa
set_option linter.unusedVariables false
set_option linter.unusedSimpArgs false
open Go.RowKit Go.Proofs.Ytcmfgijdelaelaa.C
attribute [local go_sem] max2_int min2_int max_two min_two

theorem msgB_48' {m : Msg} (h : msgR m = true) : 48 ≤ (msgB m).length := by
  have q := msg_fwd (msgR_ok h) []
  rw [List.append_nil] at q
  exact reads_msg.2 q

set_option maxHeartbeats 4000000 in
set_option maxRecDepth 100000 in
theorem PackOwn_walk (w : World) (cs : Array Value) (m : Msg) (h : msgK.K w (fun k => k < w.heap.size) m cs.toList) :
    Calls Try.prog 8 #[.agg cs] w fun e w' => e = .returned (.bool true) ∧ Below w.heap.size w w' := by
  obtain ⟨A, n, c, rfl, hl⟩ := msg_open h
  have HL := hid hl
  obtain ⟨w0, hw0⟩ : ∃ w0, w0 = w.alloc (.cells #[.int .i64 m.kind, .int .i64 m.view, .int .i64 m.src, .int .i64 m.dst, .int .i64 m.op, .int .i64 m.commit, .int .i64 m.normal, .slice A n c] 43) := ⟨_, rfl⟩
  have C0 := hid (show Chg (fun _ => False) w w0 by rw [hw0]; exact (Chg.refl _ w).alloc _)
  have B0 := hid (show w0.heap[w.heap.size]? = some (.cells #[.int .i64 m.kind, .int .i64 m.view, .int .i64 m.src, .int .i64 m.dst, .int .i64 m.op, .int .i64 m.commit, .int .i64 m.normal, .slice A n c] 43 (0, 0)) by rw [hw0]; exact blk_new w _)
  have HFIN := hid (fun (w' : World) (hc : Chg (fun _ => False) w w') => (show Below w.heap.size w w' from hc.below (Nat.le_refl _) (fun _ h => h.elim)))
  clear h hl
  go_enter Try.func8, Try.ntmps8
  go_wp2_with fail
  rw [← hw0]
  clear hw0
  refine (anchor_any w0).mono ?_
  rintro e w1 ⟨rfl, h1⟩
  have C1 := hid (C0.out.trans h1 (fun _ h _ => h))
  have B1 := hid (h1.blk B0.out (fun h => h))
  clear h1
  have x7 : w1.cell? ⟨w.heap.size, 7, none⟩ = some (.slice A n c) := (cellAt B1.out 7).trans rfl
  go_wp2_with fail
  clear x7
  refine (small_any (HL.out.chg C1.out (fun _ _ h => h))).mono ?_
  rintro e w2 ⟨rfl, h2⟩
  have C2 := hid (C1.out.trans h2 (fun _ h _ => h))
  have B2 := hid (h2.blk B1.out (fun h => h))
  clear h2
  cases hs : smallR m.log
  · go_wp2_with fail
    go_ret
    exact ⟨rfl, HFIN.out _ C2.out⟩
  have HS := hid hs
  have HPUT := hid (smallR_put hs)
  have hn7 : n ≤ 70 := by have := HL.out.1; have := smallR_len hs; omega
  clear hs
  have x0 : w2.cell? ⟨w.heap.size, 0, none⟩ = some (.int .i64 m.kind) := (cellAt B2.out 0).trans rfl
  have x1 : w2.cell? ⟨w.heap.size, 1, none⟩ = some (.int .i64 m.view) := (cellAt B2.out 1).trans rfl
  have x2 : w2.cell? ⟨w.heap.size, 2, none⟩ = some (.int .i64 m.src) := (cellAt B2.out 2).trans rfl
  have x3 : w2.cell? ⟨w.heap.size, 3, none⟩ = some (.int .i64 m.dst) := (cellAt B2.out 3).trans rfl
  have x4 : w2.cell? ⟨w.heap.size, 4, none⟩ = some (.int .i64 m.op) := (cellAt B2.out 4).trans rfl
  have x5 : w2.cell? ⟨w.heap.size, 5, none⟩ = some (.int .i64 m.commit) := (cellAt B2.out 5).trans rfl
  have x6 : w2.cell? ⟨w.heap.size, 6, none⟩ = some (.int .i64 m.normal) := (cellAt B2.out 6).trans rfl
  have x7 : w2.cell? ⟨w.heap.size, 7, none⟩ = some (.slice A n c) := (cellAt B2.out 7).trans rfl
  go_wp2_with fail
  clear x0 x1 x2 x3 x4 x5 x6 x7
  refine (encode_any (m := m) (HL.out.chg C2.out (fun _ _ h => h))).mono ?_
  rintro e w3 ⟨h3, he⟩
  have C3 := hid (C2.out.trans h3 (fun _ h _ => h))
  have B3 := hid (h3.blk B2.out (fun h => h))
  have S3 := hid (show w2.heap.size ≤ w3.heap.size from h3.size)
  clear h3
  rcases he with ⟨hr, rfl⟩ | ⟨hr, hlen, rfl⟩ | ⟨hr, hlen, A4, c4, rfl, hby⟩
  · clear hr
    go_wp2_with fail
    go_ret
    exact ⟨rfl, HFIN.out _ C3.out⟩
  · clear hr hlen
    go_wp2_with fail
    go_ret
    exact ⟨rfl, HFIN.out _ C3.out⟩
  have HPB := hid (parseMsg_bytes hr hlen)
  have HMOK := hid (msgR_ok hr)
  obtain ⟨L, hL⟩ : ∃ L, (msgB m).length = L := ⟨_, rfl⟩
  rw [hL] at hby hlen ⊢
  have L48 : 48 ≤ L := by rw [← hL]; exact msgB_48' hr
  have i5 : (L : Int) ≤ 65536 := by omega
  have HLL := hid hL
  have hrow := hby.row
  rw [hL] at hrow
  obtain ⟨gx, hgx, hgl⟩ := own_form hrow (by omega)
  subst hgx
  have HBY := hid hby
  have HLO := hid (fun k hk => hby.rowS k hk)
  have HHI := hid (fun k hk => own_lt hrow k hk)
  have HROW := hid hrow
  clear hr hby hL hrow hgl
  go_wp2_with fail
  refine (decode_any HBY.out.at (by omega)).mono ?_
  rintro e w5 ⟨h5, hd⟩
  rcases hd with ⟨hd, _⟩ | ⟨m', A9, n9, c9, hd, rfl, _, hlog⟩
  · rw [HPB.out] at hd
    cases hd
  obtain rfl : m = m' := by rw [HPB.out] at hd; injection hd
  obtain ⟨wz, hwz⟩ : ∃ wz, wz = w5.alloc (.cells #[.int .i64 m.kind, .int .i64 m.view, .int .i64 m.src, .int .i64 m.dst, .int .i64 m.op, .int .i64 m.commit, .int .i64 m.normal, .slice A9 n9 c9] 43) := ⟨_, rfl⟩
  have CZ0 := hid (show Chg (fun _ => False) w5 wz by rw [hwz]; exact (Chg.refl _ w5).alloc _)
  have C3Z := hid (show Chg (fun _ => False) w3 wz from h5.trans CZ0.out (fun _ h _ => h))
  have CZ := hid (C3.out.trans C3Z.out (fun _ h _ => h))
  have BZ := hid (C3Z.out.blk B3.out (fun h => h))
  have DZ := hid (show wz.heap[w5.heap.size]? = some (.cells #[.int .i64 m.kind, .int .i64 m.view, .int .i64 m.src, .int .i64 m.dst, .int .i64 m.op, .int .i64 m.commit, .int .i64 m.normal, .slice A9 n9 c9] 43 (0, 0)) by rw [hwz]; exact blk_new w5 _)
  have HLZ := hid (hlog.chg CZ0.out (fun _ _ h => h))
  have OZ := hid (C3Z.out.own HROW.out (fun _ _ h => h))
  have S35 := hid (show w3.heap.size ≤ w5.heap.size from h5.size)
  have S02 := hid (show w.heap.size < w2.heap.size from by have := (Array.getElem?_eq_some_iff.1 B2.out).1; exact this)
  have hn9 : n9 ≤ 100 := by have := hlog.1; have := HMOK.out.len; omega
  have HWZ := hid hwz
  clear hwz h5 hd hlog
  go_wp2_with fail
  rw [← HWZ.out]
  clear HWZ
  go_loopw [28] (fun i wr => ∃ t : Nat, t ≤ L ∧ i = .int .i64 t ∧ wr.ownsRow 0 5 1 (.slice (some ⟨gx, 0, none⟩) L c4) L (u8s (flip (msgB m) t)) ∧ Chg (fun k => (Value.slice (some ⟨gx, 0, none⟩) L c4).ownBlock = some k) wz wr) (fun i _ => L - (intOf i).toNat)
  case atStart => exact ⟨0, Nat.zero_le _, rfl, by rw [flip_zero]; exact OZ.out, Chg.refl _ wz⟩
  case round =>
    obtain ⟨t, ht, rfl, ho, hcz⟩ := hrel
    have HO := hid ho
    have HCZ := hid hcz
    clear ho hcz
    by_cases hlt2 : t < L
    · obtain ⟨y, hy⟩ : ∃ y, (msgB m)[t]? = some y := ⟨_, List.getElem?_eq_getElem (by rw [HLL.out]; exact hlt2)⟩
      obtain ⟨hcell2, hfree⟩ := own_u8 HO.out (flip_at hy)
      have HY := hid hy
      clear hy
      go_wp2_with fail
      go_roundw
      case measure => simp [intOf]; omega
      case rel =>
        rw [xor255]
        refine ⟨t + 1, by omega, by go_num, ?_, ?_⟩
        · rw [flip_succ HY.out]; exact own_u8_set HO.out t _
        · exact HCZ.out.trans ((Chg.refl (fun k => (Value.slice (some ⟨gx, 0, none⟩) L c4).ownBlock = some k) wr).set (p := ⟨gx, t, none⟩) (fun _ => rfl) _) (fun _ h _ => h)
    · have CR := hid (show Chg (fun _ => False) w wr from CZ.out.trans HCZ.out (fun k hk hlt => by have := HLO.out k hk; have := S02.out; omega))
      have HLR := hid (HLZ.out.chg HCZ.out (fun k hk h => by have := HHI.out k h; omega))
      have BR := hid (HCZ.out.blk BZ.out (fun h => by have := HLO.out _ h; have := S02.out; omega))
      have DR := hid (HCZ.out.blk DZ.out (fun h => by have := HHI.out _ h; have := S35.out; omega))
      have x0 : ∀ wx, Chg (fun _ => False) wr wx → wx.cell? ⟨w.heap.size, 0, none⟩ = some (.int .i64 m.kind) := fun wx hx => (cellAt (hx.blk BR.out (fun h => h)) 0).trans rfl
      have x1 : ∀ wx, Chg (fun _ => False) wr wx → wx.cell? ⟨w.heap.size, 1, none⟩ = some (.int .i64 m.view) := fun wx hx => (cellAt (hx.blk BR.out (fun h => h)) 1).trans rfl
      have x2 : ∀ wx, Chg (fun _ => False) wr wx → wx.cell? ⟨w.heap.size, 2, none⟩ = some (.int .i64 m.src) := fun wx hx => (cellAt (hx.blk BR.out (fun h => h)) 2).trans rfl
      have x3 : ∀ wx, Chg (fun _ => False) wr wx → wx.cell? ⟨w.heap.size, 3, none⟩ = some (.int .i64 m.dst) := fun wx hx => (cellAt (hx.blk BR.out (fun h => h)) 3).trans rfl
      have x4 : ∀ wx, Chg (fun _ => False) wr wx → wx.cell? ⟨w.heap.size, 4, none⟩ = some (.int .i64 m.op) := fun wx hx => (cellAt (hx.blk BR.out (fun h => h)) 4).trans rfl
      have x5 : ∀ wx, Chg (fun _ => False) wr wx → wx.cell? ⟨w.heap.size, 5, none⟩ = some (.int .i64 m.commit) := fun wx hx => (cellAt (hx.blk BR.out (fun h => h)) 5).trans rfl
      have x6 : ∀ wx, Chg (fun _ => False) wr wx → wx.cell? ⟨w.heap.size, 6, none⟩ = some (.int .i64 m.normal) := fun wx hx => (cellAt (hx.blk BR.out (fun h => h)) 6).trans rfl
      have x7 : ∀ wx, Chg (fun _ => False) wr wx → wx.cell? ⟨w.heap.size, 7, none⟩ = some (.slice A n c) := fun wx hx => (cellAt (hx.blk BR.out (fun h => h)) 7).trans rfl
      have y0 : ∀ wx, Chg (fun _ => False) wr wx → wx.cell? ⟨w5.heap.size, 0, none⟩ = some (.int .i64 m.kind) := fun wx hx => (cellAt (hx.blk DR.out (fun h => h)) 0).trans rfl
      have y1 : ∀ wx, Chg (fun _ => False) wr wx → wx.cell? ⟨w5.heap.size, 1, none⟩ = some (.int .i64 m.view) := fun wx hx => (cellAt (hx.blk DR.out (fun h => h)) 1).trans rfl
      have y2 : ∀ wx, Chg (fun _ => False) wr wx → wx.cell? ⟨w5.heap.size, 2, none⟩ = some (.int .i64 m.src) := fun wx hx => (cellAt (hx.blk DR.out (fun h => h)) 2).trans rfl
      have y3 : ∀ wx, Chg (fun _ => False) wr wx → wx.cell? ⟨w5.heap.size, 3, none⟩ = some (.int .i64 m.dst) := fun wx hx => (cellAt (hx.blk DR.out (fun h => h)) 3).trans rfl
      have y4 : ∀ wx, Chg (fun _ => False) wr wx → wx.cell? ⟨w5.heap.size, 4, none⟩ = some (.int .i64 m.op) := fun wx hx => (cellAt (hx.blk DR.out (fun h => h)) 4).trans rfl
      have y5 : ∀ wx, Chg (fun _ => False) wr wx → wx.cell? ⟨w5.heap.size, 5, none⟩ = some (.int .i64 m.commit) := fun wx hx => (cellAt (hx.blk DR.out (fun h => h)) 5).trans rfl
      have y6 : ∀ wx, Chg (fun _ => False) wr wx → wx.cell? ⟨w5.heap.size, 6, none⟩ = some (.int .i64 m.normal) := fun wx hx => (cellAt (hx.blk DR.out (fun h => h)) 6).trans rfl
      have y7 : ∀ wx, Chg (fun _ => False) wr wx → wx.cell? ⟨w5.heap.size, 7, none⟩ = some (.slice A9 n9 c9) := fun wx hx => (cellAt (hx.blk DR.out (fun h => h)) 7).trans rfl
      go_wp2_with fail
      refine wpB_start (fun wx : World => Chg (fun _ => False) wr wx) (by kernel_rfl) ?_
      have hHeld : (fun wx : World => Chg (fun _ => False) wr wx) _ := (by first | assumption | exact Chg.drew (Chg.refl _ _) | (show _ ∧ _; refine ⟨?_, ?_⟩ <;> assumption) | (first | (with_reducible exact hHeld.trans HZ2.out (fun _ h _ => h)) | (with_reducible exact hHeld.trans HZ.out (fun _ h _ => h))))
      -- 0: t38 := move t6 : 32
      refine wpB_take (i := 0) (v := ?_) (get_of_drop rfl) (by kernel_rfl) (by kernel_rfl) (by kernel_rfl) (by kernel_rfl) (fun _ _ _ h => h) (Or.inl ⟨by rfl, ?_⟩) hHeld ?_
      rotate_left
      · (intro w hSw; (try dsimp only at hSw); go_simp <;> with_reducible rfl)
      try simp only [Act.put, List.setIfInBounds_toArray, List.set_cons_zero, List.set_cons_succ]
      -- 1: t39 := binOp BinOp.eql 32 t38 #i64:0 32 : 4
      refine wpB_take (i := 1) (v := ?_) (get_of_drop rfl) (by kernel_rfl) (by kernel_rfl) (by kernel_rfl) (by kernel_rfl) (fun _ _ _ h => h) (Or.inl ⟨by rfl, ?_⟩) hHeld ?_
      rotate_left
      · (intro w hSw; (try dsimp only at hSw); go_simp <;> with_reducible rfl)
      try simp only [Act.put, List.setIfInBounds_toArray, List.set_cons_zero, List.set_cons_succ]
      -- 2: t40 := move t39 : 4
      refine wpB_take (i := 2) (v := ?_) (get_of_drop rfl) (by kernel_rfl) (by kernel_rfl) (by kernel_rfl) (by kernel_rfl) (fun _ _ _ h => h) (Or.inl ⟨by rfl, ?_⟩) hHeld ?_
      rotate_left
      · (intro w hSw; (try dsimp only at hSw); go_simp <;> with_reducible rfl)
      try simp only [Act.put, List.setIfInBounds_toArray, List.set_cons_zero, List.set_cons_succ]
      -- 3: t41 := load 43 t5 : 43   [if ⟨2, true⟩]
      refine wpB_take (i := 3) (v := ?_) (get_of_drop rfl) (by kernel_rfl) (by kernel_rfl) (by kernel_rfl) (by kernel_rfl) (fun _ _ _ h => h) (Or.inl ⟨by rfl, ?_⟩) hHeld ?_
      rotate_left
      · (intro w hSw; (try dsimp only at hSw); go_simp <;> with_reducible rfl)
      try simp only [Act.put, List.setIfInBounds_toArray, List.set_cons_zero, List.set_cons_succ]
      -- 4: t42 := load 43 t1 : 43   [if ⟨2, true⟩]
      refine wpB_take (i := 4) (v := ?_) (get_of_drop rfl) (by kernel_rfl) (by kernel_rfl) (by kernel_rfl) (by kernel_rfl) (fun _ _ _ h => h) (Or.inl ⟨by rfl, ?_⟩) hHeld ?_
      rotate_left
      · (intro w hSw; (try dsimp only at hSw); go_simp <;> with_reducible rfl)
      try simp only [Act.put, List.setIfInBounds_toArray, List.set_cons_zero, List.set_cons_succ]
      -- 5: t43 := CALL fn22(t42) : 47   [if ⟨2, true⟩]
      refine wpB_act (i := 5) (by kernel_rfl) (get_of_drop rfl) (fun K hK => ?_)
      go_simp
      refine (mademsg_any (m := m) ((HL.out.chg CR.out (fun _ _ h => h)).chg (Chg.refl (fun _ => False) wr).drew (fun _ _ h => h)) (by omega) HPUT.out).mono ?_
      rintro e wy ⟨A3, c3, rfl, hat, hy⟩
      have HZ := hid hy
      have HM := hid hat.bound
      clear hy hat
      refine hK.out _ _ ?_ (fun hHeld2 => ?_)
      · (first | (with_reducible exact hHeld.trans HZ2.out (fun _ h _ => h)) | (with_reducible exact hHeld.trans HZ.out (fun _ h _ => h)))
      clear hHeld hK K
      have hHeld := hHeld2
      clear hHeld2
      try simp only [Act.put, List.setIfInBounds_toArray, List.set_cons_zero, List.set_cons_succ]
      -- 6: t44 := CALL fn21(t41, t43) : 4   [if ⟨2, true⟩]
      refine wpB_act (i := 6) (by kernel_rfl) (get_of_drop rfl) (fun K hK => ?_)
      go_simp
      refine (likemsg_any (m := m) (x := m) ((HLR.out.chg (Chg.refl (fun _ => False) wr).drew (fun _ _ h => h)).chg HZ.out (fun _ _ h => h)) HM.out (by omega) (fun e he => HPUT.out e he)).mono ?_
      rintro e wx ⟨rfl, hz⟩
      have HZ2 := hid hz
      clear hz
      refine hK.out _ _ ?_ (fun hHeld2 => ?_)
      · (first | (with_reducible exact hHeld.trans HZ2.out (fun _ h _ => h)) | (with_reducible exact hHeld.trans HZ.out (fun _ h _ => h)))
      clear hHeld hK K
      have hHeld := hHeld2
      clear hHeld2
      try simp only [Act.put, List.setIfInBounds_toArray, List.set_cons_zero, List.set_cons_succ]
      -- 7: t45 := pick t40 t44 #false : 4
      refine wpB_take (i := 7) (v := ?_) (get_of_drop rfl) (by kernel_rfl) (by kernel_rfl) (by kernel_rfl) (by kernel_rfl) (fun _ _ _ h => h) (Or.inl ⟨by rfl, ?_⟩) hHeld ?_
      rotate_left
      · (intro w hSw; (try dsimp only at hSw); go_simp <;> with_reducible rfl)
      try simp only [Act.put, List.setIfInBounds_toArray, List.set_cons_zero, List.set_cons_succ]
      -- 8: t2 := assign t45 : 4
      refine wpB_take (i := 8) (v := ?_) (get_of_drop rfl) (by kernel_rfl) (by kernel_rfl) (by kernel_rfl) (by kernel_rfl) (fun _ _ _ h => h) (Or.inl ⟨by rfl, ?_⟩) hHeld ?_
      rotate_left
      · (intro w hSw; (try dsimp only at hSw); go_simp <;> with_reducible rfl)
      try simp only [Act.put, List.setIfInBounds_toArray, List.set_cons_zero, List.set_cons_succ]
      refine wpB_done (by kernel_rfl) ?_ _
      have CE := hid (CR.out.trans hHeld (fun _ h _ => h))
      clear hHeld x0 y0 x1 y1 x2 y2 x3 y3 x4 y4 x5 y5 x6 y6 x7 y7
      go_wp2_with fail
      go_ret
      exact ⟨by simp, HFIN.out _ CE.out⟩
end Go.Proofs.Ytcmfgijdelaelaa.Pa
