
/- The walk of the law PackSame. -/

import Derived.Test.YtcmfgijdelaelaaPackAn

import Derived.Test.YtcmfgijdelaelaaTypesP

import Derived.Test.YtcmfgijdelaelaaPackSc

namespace Go.Proofs.Ytcmfgijdelaelaa.Pa

set_option linter.unusedVariables false

set_option linter.unusedSimpArgs false

open Go.RowKit Go.Proofs.Ytcmfgijdelaelaa.C

attribute [local go_sem] max2_int min2_int max_two min_two

theorem entry_lit {W : World} {t : TypeId} {R : Nat → Prop} {r : Entry} {E1 : Option Addr} {m1 d1 : Nat} {E2 : Option Addr} {m2 d2 : Nat} (h : EntryAt W R r E1 m1 d1 E2 m2 d2) :
    Ty.At entryK (W.alloc (.cells #[.int .i64 r.view, .int .i64 r.client, .int .i64 r.request, .int .i64 r.dflt, .int .i64 r.closed, .int .i64 r.fuel, .int .i64 r.stack, .slice E1 m1 d1, .slice E2 m2 d2] t)) (fun k => R k ∨ k = W.heap.size) (some ⟨W.heap.size, 0, none⟩) 1 1 [r] := by
  refine ⟨rfl, Nat.le_refl _, by simp [maxLen], by simp, entryCells r E1 m1 d1 E2 m2 d2, .inr ⟨_, rfl, .inr rfl, fun j u hj => ?_⟩, rfl, fun i x hx => ?_⟩
  · rw [add_at, Nat.zero_add, cellAt (blk_new W _)]
    have e : #[.int .i64 r.view, .int .i64 r.client, .int .i64 r.request, .int .i64 r.dflt, .int .i64 r.closed, .int .i64 r.fuel, .int .i64 r.stack, .slice E1 m1 d1, .slice E2 m2 d2] = (entryCells r E1 m1 d1 E2 m2 d2).toArray := rfl
    rw [e]
    simpa using hj
  · cases i with
    | succ i => simp at hx
    | zero =>
      simp at hx
      subst hx
      have e : ((entryCells r E1 m1 d1 E2 m2 d2).drop (0 * entryK.sz)).take entryK.sz = entryCells r E1 m1 d1 E2 m2 d2 := rfl
      rw [e]
      have h1 : EntryAt (W.alloc (.cells #[.int .i64 r.view, .int .i64 r.client, .int .i64 r.request, .int .i64 r.dflt, .int .i64 r.closed, .int .i64 r.fuel, .int .i64 r.stack, .slice E1 m1 d1, .slice E2 m2 d2] t)) R r E1 m1 d1 E2 m2 d2 := ⟨h.1, h.2.1.chg ((Chg.refl (fun _ => False) W).alloc _) (fun _ _ h => h), h.2.2.chg ((Chg.refl (fun _ => False) W).alloc _) (fun _ _ h => h)⟩
      exact entryK.mono (entry_shut h1) (fun k hk => .inl hk)

set_option maxHeartbeats 4000000 in
set_option maxRecDepth 100000 in
theorem PackSame_walk (w : World) (A : Option Addr) (n c : Nat) (xs : List Entry) (h : Ty.At entryK w (fun k => k < w.heap.size) A n c xs) (B : Option Addr) (k d : Nat) (ys : List Entry) (h' : Ty.At entryK w (fun k => k < w.heap.size) B k d ys) :
    Calls Try.prog 9 #[.slice A n c, .slice B k d] w fun e w' => e = .returned (.bool true) ∧ Below w.heap.size w w' := by
  have HL := hid h
  have HX := hid h'
  have HN := hid h.1
  have HFIN := hid (fun (w' : World) (hc : Chg (fun _ => False) w w') => (show Below w.heap.size w w' from hc.below (Nat.le_refl _) (fun _ h => h.elim)))
  clear h h'
  go_enter Try.func9, Try.ntmps9
  go_wp2_with fail
  refine (anchor_any w).mono ?_
  rintro e w1 ⟨rfl, h1⟩
  have C1 := hid h1
  clear h1
  go_wp2_with fail
  refine (small_any (HL.out.chg C1.out (fun _ _ h => h))).mono ?_
  rintro e w2 ⟨rfl, h2⟩
  have C2 := hid (C1.out.trans h2 (fun _ h _ => h))
  clear h2
  cases hs : smallR xs
  · go_wp2_with fail
    go_ret
    exact ⟨rfl, HFIN.out _ C2.out⟩
  have HPUT := hid (smallR_put hs)
  have hn7 : n ≤ 70 := by have := HL.out.1; have := smallR_len hs; omega
  clear hs
  go_wp2_with fail
  refine (small_any (HX.out.chg C2.out (fun _ _ h => h))).mono ?_
  rintro e w3 ⟨rfl, h3⟩
  have C3 := hid (C2.out.trans h3 (fun _ h _ => h))
  clear h3
  cases hs : smallR ys
  · go_wp2_with fail
    go_ret
    exact ⟨rfl, HFIN.out _ C3.out⟩
  have HPUTX := hid (smallR_put hs)
  have hk7 : k ≤ 70 := by have := HX.out.1; have := smallR_len hs; omega
  clear hs
  go_wp2_with fail
  refine (Same_any (HL.out.chg C3.out (fun _ _ h => h)) (HX.out.chg C3.out (fun _ _ h => h))).mono ?_
  rintro e w4 ⟨rfl, h4⟩
  have C4 := hid (C3.out.trans h4 (fun _ h _ => h))
  clear h4
  go_wp2_with fail
  refine (entries_any (HL.out.chg C4.out (fun _ _ h => h)) (by omega) HPUT.out).mono ?_
  rintro e w5 ⟨A5, c5, rfl, hat, h5⟩
  have C5 := hid (C4.out.trans h5 (fun _ h _ => h))
  have H5 := hid hat.bound
  clear h5 hat
  go_wp2_with fail
  refine (entries_any (HX.out.chg C5.out (fun _ _ h => h)) (by omega) HPUTX.out).mono ?_
  rintro e w6 ⟨A6, c6, rfl, hat, h6⟩
  have C6 := hid (C5.out.trans h6 (fun _ h _ => h))
  have H6 := hid hat.bound
  have H56 := hid (H5.out.chg h6 (fun _ _ h => h))
  clear h6 hat
  go_wp2_with fail
  refine (refSame_any H56.out H6.out).mono ?_
  rintro e w7 ⟨rfl, h7⟩
  have C7 := hid (C6.out.trans h7 (fun _ h _ => h))
  clear h7
  go_wp2_with fail
  go_loopw [34] (fun i wr => ∃ j : Nat, j ≤ n ∧ i = .int .i64 j ∧ Chg (fun _ => False) w7 wr) (fun i _ => n - (intOf i).toNat)
  case atStart => exact ⟨0, Nat.zero_le _, rfl, Chg.refl _ w7⟩
  case round =>
    obtain ⟨j, hj, rfl, hcz⟩ := hrel
    have HCZ := hid hcz
    have CR := hid (C7.out.trans hcz (fun _ h _ => h))
    clear hcz
    by_cases hlt : j < n
    · obtain ⟨r, hr⟩ : ∃ r, xs[j]? = some r := ⟨_, List.getElem?_eq_getElem (by have := HN.out; omega)⟩
      have HR := hid hr
      obtain ⟨a, cs, ha, haR, hK, hcs⟩ := (HL.out.chg CR.out (fun _ _ h => h)).get (by decide) hr
      obtain ⟨E1, m1, d1, E2, m2, d2, rfl, hrw⟩ := entry_open (id hK)
      have HRW := hid hrw
      clear hrw hr
      subst ha
      have hcs2 : ∀ i u, (entryCells r E1 m1 d1 E2 m2 d2)[i]? = some u → wr.cell? (a.add (j * 9 + i)) = some u := fun i u hj => hcs i u hj
      have x0 := elem_cell0 hcs2 _ rfl
      have x1 := elem_cell hcs2 0 _ rfl
      have x2 := elem_cell hcs2 1 _ rfl
      have x3 := elem_cell hcs2 2 _ rfl
      have x4 := elem_cell hcs2 3 _ rfl
      have x5 := elem_cell hcs2 4 _ rfl
      have x6 := elem_cell hcs2 5 _ rfl
      have x7 := elem_cell hcs2 6 _ rfl
      have x8 := elem_cell hcs2 7 _ rfl
      clear hcs hcs2 hK
      go_wp2_with fail
      have HPR := hid (show ∀ e ∈ [r], e.put.length ≤ 1000000 from fun e he => by rw [List.mem_singleton.1 he]; exact HPUT.out r (List.mem_of_getElem? HR.out))
      obtain ⟨wb, hwb⟩ : ∃ wb, wb = wr.alloc (.cells #[.int .i64 r.view, .int .i64 r.client, .int .i64 r.request, .int .i64 r.dflt, .int .i64 r.closed, .int .i64 r.fuel, .int .i64 r.stack, .slice E1 m1 d1, .slice E2 m2 d2] 65) := ⟨_, rfl⟩
      have CBB := hid (show Chg (fun _ => False) wr wb by rw [hwb]; exact (Chg.refl _ wr).alloc _)
      have BB := hid (show wb.heap[wr.heap.size]? = some (.cells #[.int .i64 r.view, .int .i64 r.client, .int .i64 r.request, .int .i64 r.dflt, .int .i64 r.closed, .int .i64 r.fuel, .int .i64 r.stack, .slice E1 m1 d1, .slice E2 m2 d2] 65 (0, 0)) by rw [hwb]; exact blk_new wr _)
      have HRB := hid (show EntryAt wb _ r E1 m1 d1 E2 m2 d2 from ⟨HRW.out.1, HRW.out.2.1.chg CBB.out (fun _ _ h => h), HRW.out.2.2.chg CBB.out (fun _ _ h => h)⟩)
      have HCW := hid (CR.out.trans CBB.out (fun _ h _ => h))
      go_wp2_with fail
      rw [← hwb]
      clear hwb x0 x1 x2 x3 x4 x5 x6 x7 x8
      have b0 : ∀ wx, Chg (fun _ => False) wb wx → wx.cell? ⟨wr.heap.size, 0, none⟩ = some (.int .i64 r.view) := fun wx hx => (cellAt (hx.blk BB.out (fun h => h)) 0).trans rfl
      have b1 : ∀ wx, Chg (fun _ => False) wb wx → wx.cell? ⟨wr.heap.size, 1, none⟩ = some (.int .i64 r.client) := fun wx hx => (cellAt (hx.blk BB.out (fun h => h)) 1).trans rfl
      have b2 : ∀ wx, Chg (fun _ => False) wb wx → wx.cell? ⟨wr.heap.size, 2, none⟩ = some (.int .i64 r.request) := fun wx hx => (cellAt (hx.blk BB.out (fun h => h)) 2).trans rfl
      have b3 : ∀ wx, Chg (fun _ => False) wb wx → wx.cell? ⟨wr.heap.size, 3, none⟩ = some (.int .i64 r.dflt) := fun wx hx => (cellAt (hx.blk BB.out (fun h => h)) 3).trans rfl
      have b4 : ∀ wx, Chg (fun _ => False) wb wx → wx.cell? ⟨wr.heap.size, 4, none⟩ = some (.int .i64 r.closed) := fun wx hx => (cellAt (hx.blk BB.out (fun h => h)) 4).trans rfl
      have b5 : ∀ wx, Chg (fun _ => False) wb wx → wx.cell? ⟨wr.heap.size, 5, none⟩ = some (.int .i64 r.fuel) := fun wx hx => (cellAt (hx.blk BB.out (fun h => h)) 5).trans rfl
      have b6 : ∀ wx, Chg (fun _ => False) wb wx → wx.cell? ⟨wr.heap.size, 6, none⟩ = some (.int .i64 r.stack) := fun wx hx => (cellAt (hx.blk BB.out (fun h => h)) 6).trans rfl
      have b7 : ∀ wx, Chg (fun _ => False) wb wx → wx.cell? ⟨wr.heap.size, 7, none⟩ = some (.slice E1 m1 d1) := fun wx hx => (cellAt (hx.blk BB.out (fun h => h)) 7).trans rfl
      have b8 : ∀ wx, Chg (fun _ => False) wb wx → wx.cell? ⟨wr.heap.size, 8, none⟩ = some (.slice E2 m2 d2) := fun wx hx => (cellAt (hx.blk BB.out (fun h => h)) 8).trans rfl
      refine wpB_start (fun wx : World => Chg (fun _ => False) wb wx) (by kernel_rfl) ?_
      have hHeld : (fun wx : World => Chg (fun _ => False) wb wx) _ := (by first | assumption | exact Chg.drew (Chg.refl _ _) | (show _ ∧ _; refine ⟨?_, ?_⟩ <;> assumption) | (first | (with_reducible exact HZ.out) | (with_reducible exact Chg.alloc hHeld _) | (with_reducible exact Chg.drew (Chg.alloc (Chg.refl _ _) _)) | (with_reducible exact Chg.refl _ _) | (with_reducible exact HZV.out)))
      -- 0: t38 := load 65 t7 : 65
      refine wpB_take (i := 0) (v := ?_) (get_of_drop rfl) (by kernel_rfl) (by kernel_rfl) (by kernel_rfl) (by kernel_rfl) (fun _ _ _ h => h) (Or.inl ⟨by rfl, ?_⟩) hHeld ?_
      rotate_left
      · (intro w hSw; (try dsimp only at hSw); go_simp <;> with_reducible rfl)
      try simp only [Act.put, List.setIfInBounds_toArray, List.set_cons_zero, List.set_cons_succ]
      -- 2: t40 := load 65 t7 : 65
      refine wpB_take (i := 2) (v := ?_) (get_of_drop rfl) (by kernel_rfl) (by kernel_rfl) (by kernel_rfl) (by kernel_rfl) (fun _ _ _ h => h) (Or.inl ⟨by rfl, ?_⟩) hHeld ?_
      rotate_left
      · (intro w hSw; (try dsimp only at hSw); go_simp <;> with_reducible rfl)
      try simp only [Act.put, List.setIfInBounds_toArray, List.set_cons_zero, List.set_cons_succ]
      refine wpB_two (i := 1) (j := 3) (by kernel_rfl) (get_of_drop rfl) (get_of_drop rfl) (fun K hK => ?_) (fun K hK => ?_)
      · -- 1: t39 := CALL fn31(t38) : 4
        go_simp
        refine (entryright_any (e := r) (show EntryAt _ _ r E1 m1 d1 E2 m2 d2 from ⟨HRB.out.1, HRB.out.2.1.chg hHeld (fun _ _ h => h), HRB.out.2.2.chg hHeld (fun _ _ h => h)⟩)).mono ?_
        rintro e wy ⟨rfl, hy⟩
        have HYR := hid hy
        have HZ := hid (hHeld.trans hy (fun _ h _ => h))
        clear hy
        refine hK.out _ _ ?_ (fun hHeld2 => ?_)
        · (first | (with_reducible exact HZ.out) | (with_reducible exact Chg.alloc hHeld _) | (with_reducible exact Chg.drew (Chg.alloc (Chg.refl _ _) _)) | (with_reducible exact Chg.refl _ _) | (with_reducible exact HZV.out))
        clear hHeld hK K
        have hHeld := hHeld2
        clear hHeld2
        try simp only [Act.put, List.setIfInBounds_toArray, List.set_cons_zero, List.set_cons_succ]
        -- 3: t41 := buildSlice 22 1 [⟨0, t40⟩] : 22
        refine wpB_act (i := 3) (by kernel_rfl) (get_of_drop rfl) (fun K hK => ?_)
        go_simp
        have HLIT := hid (entry_lit (t := 65) (show EntryAt _ _ r E1 m1 d1 E2 m2 d2 from ⟨HRB.out.1, HRB.out.2.1.chg hHeld (fun _ _ h => h), HRB.out.2.2.chg hHeld (fun _ _ h => h)⟩))
        refine hK.out _ _ ?_ (fun hHeld2 => ?_)
        · (first | (with_reducible exact HZ.out) | (with_reducible exact Chg.alloc hHeld _) | (with_reducible exact Chg.drew (Chg.alloc (Chg.refl _ _) _)) | (with_reducible exact Chg.refl _ _) | (with_reducible exact HZV.out))
        clear hHeld hK K
        have hHeld := hHeld2
        clear hHeld2
        try simp only [Act.put, List.setIfInBounds_toArray, List.set_cons_zero, List.set_cons_succ]
        -- 4: t42 := CALL fn30(t41) : 28 (BARRIER)
        refine wpB_bar (i := 4) (by kernel_rfl) (get_of_drop rfl) (by kernel_rfl) (fun K hK => ?_)
        go_simp
        refine (entries_any (xs := [r]) (by first | exact HLIT.out | exact HLIT.out.chg HYR.out (fun _ _ h => h)) (by decide) HPR.out).mono ?_
        rintro e w4z ⟨A4, c4, rfl, hat4, h44⟩
        have HZ4 := hid (show Chg (fun _ => False) wb w4z from hHeld.trans h44 (fun _ h _ => h))
        obtain ⟨a4, cs4, ha4, _, hK4, hcs4⟩ := hat4.get (by decide) (show [r][0]? = some r from rfl)
        obtain ⟨F1, p1, q1, F2, p2, q2, rfl, hrw4⟩ := entry_open (id hK4)
        subst ha4
        have HR4 := hid hrw4
        have hcs5 : ∀ wx, Chg (fun _ => False) w4z wx → ∀ i u, (entryCells r F1 p1 q1 F2 p2 q2)[i]? = some u → wx.cell? (a4.add (0 * 9 + i)) = some u := fun wx hx i u hi => hx.cell (hcs4 i u hi) (fun h => h)
        have v0 : ∀ wx, Chg (fun _ => False) w4z wx → wx.cell? a4 = some (.int .i64 r.view) := fun wx hx => elem_cell0 (hcs5 wx hx) _ rfl
        have v1 : ∀ wx, Chg (fun _ => False) w4z wx → wx.cell? ⟨a4.block, a4.off + 1, none⟩ = some (.int .i64 r.client) := fun wx hx => elem_cell (hcs5 wx hx) 0 _ rfl
        have v2 : ∀ wx, Chg (fun _ => False) w4z wx → wx.cell? ⟨a4.block, a4.off + 2, none⟩ = some (.int .i64 r.request) := fun wx hx => elem_cell (hcs5 wx hx) 1 _ rfl
        have v3 : ∀ wx, Chg (fun _ => False) w4z wx → wx.cell? ⟨a4.block, a4.off + 3, none⟩ = some (.int .i64 r.dflt) := fun wx hx => elem_cell (hcs5 wx hx) 2 _ rfl
        have v4 : ∀ wx, Chg (fun _ => False) w4z wx → wx.cell? ⟨a4.block, a4.off + 4, none⟩ = some (.int .i64 r.closed) := fun wx hx => elem_cell (hcs5 wx hx) 3 _ rfl
        have v5 : ∀ wx, Chg (fun _ => False) w4z wx → wx.cell? ⟨a4.block, a4.off + 5, none⟩ = some (.int .i64 r.fuel) := fun wx hx => elem_cell (hcs5 wx hx) 4 _ rfl
        have v6 : ∀ wx, Chg (fun _ => False) w4z wx → wx.cell? ⟨a4.block, a4.off + 6, none⟩ = some (.int .i64 r.stack) := fun wx hx => elem_cell (hcs5 wx hx) 5 _ rfl
        have v7 : ∀ wx, Chg (fun _ => False) w4z wx → wx.cell? ⟨a4.block, a4.off + 7, none⟩ = some (.slice F1 p1 q1) := fun wx hx => elem_cell (hcs5 wx hx) 6 _ rfl
        have v8 : ∀ wx, Chg (fun _ => False) w4z wx → wx.cell? ⟨a4.block, a4.off + 8, none⟩ = some (.slice F2 p2 q2) := fun wx hx => elem_cell (hcs5 wx hx) 7 _ rfl
        clear h44 hat4 hrw4 hK4 hcs4 hcs5 HLIT b0 b1 b2 b3 b4 b5 b6 b7 b8
        refine hK.out _ _ (fun wx : World => Chg (fun _ => False) w4z wx) ?_
        clear hHeld hK K
        have hHeld : (fun wx : World => Chg (fun _ => False) w4z wx) _ := (by (first | (with_reducible exact HZ.out) | (with_reducible exact Chg.alloc hHeld _) | (with_reducible exact Chg.drew (Chg.alloc (Chg.refl _ _) _)) | (with_reducible exact Chg.refl _ _) | (with_reducible exact HZV.out)))
        try simp only [Act.put, List.setIfInBounds_toArray, List.set_cons_zero, List.set_cons_succ]
        -- 5: t43 := indexAddr 28 t42 #i64:0 : 0
        refine wpB_take (i := 5) (v := ?_) (get_of_drop rfl) (by kernel_rfl) (by kernel_rfl) (by kernel_rfl) (by kernel_rfl) (fun _ _ _ h => h) (Or.inl ⟨by rfl, ?_⟩) hHeld ?_
        rotate_left
        · (intro w hSw; (try dsimp only at hSw); go_simp <;> with_reducible rfl)
        try simp only [Act.put, List.setIfInBounds_toArray, List.set_cons_zero, List.set_cons_succ]
        -- 6: t44 := load 70 t43 : 70
        refine wpB_take (i := 6) (v := ?_) (get_of_drop rfl) (by kernel_rfl) (by kernel_rfl) (by kernel_rfl) (by kernel_rfl) (fun _ _ _ h => h) (Or.inl ⟨by rfl, ?_⟩) hHeld ?_
        rotate_left
        · (intro w hSw; (try dsimp only at hSw); go_simp <;> with_reducible rfl)
        try simp only [Act.put, List.setIfInBounds_toArray, List.set_cons_zero, List.set_cons_succ]
        -- 7: t45 := CALL fn32(t44) : 4
        refine wpB_act (i := 7) (by kernel_rfl) (get_of_drop rfl) (fun K hK => ?_)
        go_simp
        refine (refentryright_any (e := r) (show EntryAt _ _ r F1 p1 q1 F2 p2 q2 from ⟨HR4.out.1, HR4.out.2.1.chg hHeld (fun _ _ h => h), HR4.out.2.2.chg hHeld (fun _ _ h => h)⟩)).mono ?_
        rintro e wv ⟨rfl, hv⟩
        have HZV := hid (show Chg (fun _ => False) w4z wv from hHeld.trans hv (fun _ h _ => h))
        have HCN := hid (show Chg (fun _ => False) w7 wv from ((HCZ.out.trans CBB.out (fun _ h _ => h)).trans HZ4.out (fun _ h _ => h)).trans HZV.out (fun _ h _ => h))
        clear hv v0 v1 v2 v3 v4 v5 v6 v7 v8
        refine hK.out _ _ ?_ (fun hHeld2 => ?_)
        · (first | (with_reducible exact HZ.out) | (with_reducible exact Chg.alloc hHeld _) | (with_reducible exact Chg.drew (Chg.alloc (Chg.refl _ _) _)) | (with_reducible exact Chg.refl _ _) | (with_reducible exact HZV.out))
        clear hHeld hK K
        have hHeld := hHeld2
        clear hHeld2
        try simp only [Act.put, List.setIfInBounds_toArray, List.set_cons_zero, List.set_cons_succ]
        -- 8: t46 := binOp BinOp.neq 4 t39 t45 4 : 4
        refine wpB_take (i := 8) (v := ?_) (get_of_drop rfl) (by kernel_rfl) (by kernel_rfl) (by kernel_rfl) (by kernel_rfl) (fun _ _ _ h => h) (Or.inl ⟨by rfl, ?_⟩) hHeld ?_
        rotate_left
        · (intro w hSw; (try dsimp only at hSw); go_simp <;> with_reducible rfl)
        try simp only [Act.put, List.setIfInBounds_toArray, List.set_cons_zero, List.set_cons_succ]
        refine wpB_done (by kernel_rfl) ?_ _
        clear hHeld
        generalize entryR r = q
        cases q
        all_goals
          go_wp2_with fail
          go_roundw
          case measure => simp [intOf]; omega
          case rel => first | exact ⟨j + 1, hlt, by go_num, HCN.out⟩ | ((repeat apply Exists.intro); exact ⟨⟨j + 1, hlt, by go_num, HCN.out⟩, rfl⟩)
      · -- 3: t41 := buildSlice 22 1 [⟨0, t40⟩] : 22
        go_simp
        have HLIT := hid (entry_lit (t := 65) (show EntryAt _ _ r E1 m1 d1 E2 m2 d2 from ⟨HRB.out.1, HRB.out.2.1.chg hHeld (fun _ _ h => h), HRB.out.2.2.chg hHeld (fun _ _ h => h)⟩))
        refine hK.out _ _ ?_ (fun hHeld2 => ?_)
        · (first | (with_reducible exact HZ.out) | (with_reducible exact Chg.alloc hHeld _) | (with_reducible exact Chg.drew (Chg.alloc (Chg.refl _ _) _)) | (with_reducible exact Chg.refl _ _) | (with_reducible exact HZV.out))
        clear hHeld hK K
        have hHeld := hHeld2
        clear hHeld2
        try simp only [Act.put, List.setIfInBounds_toArray, List.set_cons_zero, List.set_cons_succ]
        -- 1: t39 := CALL fn31(t38) : 4
        refine wpB_act (i := 1) (by kernel_rfl) (get_of_drop rfl) (fun K hK => ?_)
        go_simp
        refine (entryright_any (e := r) (show EntryAt _ _ r E1 m1 d1 E2 m2 d2 from ⟨HRB.out.1, HRB.out.2.1.chg hHeld (fun _ _ h => h), HRB.out.2.2.chg hHeld (fun _ _ h => h)⟩)).mono ?_
        rintro e wy ⟨rfl, hy⟩
        have HYR := hid hy
        have HZ := hid (hHeld.trans hy (fun _ h _ => h))
        clear hy
        refine hK.out _ _ ?_ (fun hHeld2 => ?_)
        · (first | (with_reducible exact HZ.out) | (with_reducible exact Chg.alloc hHeld _) | (with_reducible exact Chg.drew (Chg.alloc (Chg.refl _ _) _)) | (with_reducible exact Chg.refl _ _) | (with_reducible exact HZV.out))
        clear hHeld hK K
        have hHeld := hHeld2
        clear hHeld2
        try simp only [Act.put, List.setIfInBounds_toArray, List.set_cons_zero, List.set_cons_succ]
        -- 4: t42 := CALL fn30(t41) : 28 (BARRIER)
        refine wpB_bar (i := 4) (by kernel_rfl) (get_of_drop rfl) (by kernel_rfl) (fun K hK => ?_)
        go_simp
        refine (entries_any (xs := [r]) (by first | exact HLIT.out | exact HLIT.out.chg HYR.out (fun _ _ h => h)) (by decide) HPR.out).mono ?_
        rintro e w4z ⟨A4, c4, rfl, hat4, h44⟩
        have HZ4 := hid (show Chg (fun _ => False) wb w4z from hHeld.trans h44 (fun _ h _ => h))
        obtain ⟨a4, cs4, ha4, _, hK4, hcs4⟩ := hat4.get (by decide) (show [r][0]? = some r from rfl)
        obtain ⟨F1, p1, q1, F2, p2, q2, rfl, hrw4⟩ := entry_open (id hK4)
        subst ha4
        have HR4 := hid hrw4
        have hcs5 : ∀ wx, Chg (fun _ => False) w4z wx → ∀ i u, (entryCells r F1 p1 q1 F2 p2 q2)[i]? = some u → wx.cell? (a4.add (0 * 9 + i)) = some u := fun wx hx i u hi => hx.cell (hcs4 i u hi) (fun h => h)
        have v0 : ∀ wx, Chg (fun _ => False) w4z wx → wx.cell? a4 = some (.int .i64 r.view) := fun wx hx => elem_cell0 (hcs5 wx hx) _ rfl
        have v1 : ∀ wx, Chg (fun _ => False) w4z wx → wx.cell? ⟨a4.block, a4.off + 1, none⟩ = some (.int .i64 r.client) := fun wx hx => elem_cell (hcs5 wx hx) 0 _ rfl
        have v2 : ∀ wx, Chg (fun _ => False) w4z wx → wx.cell? ⟨a4.block, a4.off + 2, none⟩ = some (.int .i64 r.request) := fun wx hx => elem_cell (hcs5 wx hx) 1 _ rfl
        have v3 : ∀ wx, Chg (fun _ => False) w4z wx → wx.cell? ⟨a4.block, a4.off + 3, none⟩ = some (.int .i64 r.dflt) := fun wx hx => elem_cell (hcs5 wx hx) 2 _ rfl
        have v4 : ∀ wx, Chg (fun _ => False) w4z wx → wx.cell? ⟨a4.block, a4.off + 4, none⟩ = some (.int .i64 r.closed) := fun wx hx => elem_cell (hcs5 wx hx) 3 _ rfl
        have v5 : ∀ wx, Chg (fun _ => False) w4z wx → wx.cell? ⟨a4.block, a4.off + 5, none⟩ = some (.int .i64 r.fuel) := fun wx hx => elem_cell (hcs5 wx hx) 4 _ rfl
        have v6 : ∀ wx, Chg (fun _ => False) w4z wx → wx.cell? ⟨a4.block, a4.off + 6, none⟩ = some (.int .i64 r.stack) := fun wx hx => elem_cell (hcs5 wx hx) 5 _ rfl
        have v7 : ∀ wx, Chg (fun _ => False) w4z wx → wx.cell? ⟨a4.block, a4.off + 7, none⟩ = some (.slice F1 p1 q1) := fun wx hx => elem_cell (hcs5 wx hx) 6 _ rfl
        have v8 : ∀ wx, Chg (fun _ => False) w4z wx → wx.cell? ⟨a4.block, a4.off + 8, none⟩ = some (.slice F2 p2 q2) := fun wx hx => elem_cell (hcs5 wx hx) 7 _ rfl
        clear h44 hat4 hrw4 hK4 hcs4 hcs5 HLIT b0 b1 b2 b3 b4 b5 b6 b7 b8
        refine hK.out _ _ (fun wx : World => Chg (fun _ => False) w4z wx) ?_
        clear hHeld hK K
        have hHeld : (fun wx : World => Chg (fun _ => False) w4z wx) _ := (by (first | (with_reducible exact HZ.out) | (with_reducible exact Chg.alloc hHeld _) | (with_reducible exact Chg.drew (Chg.alloc (Chg.refl _ _) _)) | (with_reducible exact Chg.refl _ _) | (with_reducible exact HZV.out)))
        try simp only [Act.put, List.setIfInBounds_toArray, List.set_cons_zero, List.set_cons_succ]
        -- 5: t43 := indexAddr 28 t42 #i64:0 : 0
        refine wpB_take (i := 5) (v := ?_) (get_of_drop rfl) (by kernel_rfl) (by kernel_rfl) (by kernel_rfl) (by kernel_rfl) (fun _ _ _ h => h) (Or.inl ⟨by rfl, ?_⟩) hHeld ?_
        rotate_left
        · (intro w hSw; (try dsimp only at hSw); go_simp <;> with_reducible rfl)
        try simp only [Act.put, List.setIfInBounds_toArray, List.set_cons_zero, List.set_cons_succ]
        -- 6: t44 := load 70 t43 : 70
        refine wpB_take (i := 6) (v := ?_) (get_of_drop rfl) (by kernel_rfl) (by kernel_rfl) (by kernel_rfl) (by kernel_rfl) (fun _ _ _ h => h) (Or.inl ⟨by rfl, ?_⟩) hHeld ?_
        rotate_left
        · (intro w hSw; (try dsimp only at hSw); go_simp <;> with_reducible rfl)
        try simp only [Act.put, List.setIfInBounds_toArray, List.set_cons_zero, List.set_cons_succ]
        -- 7: t45 := CALL fn32(t44) : 4
        refine wpB_act (i := 7) (by kernel_rfl) (get_of_drop rfl) (fun K hK => ?_)
        go_simp
        refine (refentryright_any (e := r) (show EntryAt _ _ r F1 p1 q1 F2 p2 q2 from ⟨HR4.out.1, HR4.out.2.1.chg hHeld (fun _ _ h => h), HR4.out.2.2.chg hHeld (fun _ _ h => h)⟩)).mono ?_
        rintro e wv ⟨rfl, hv⟩
        have HZV := hid (show Chg (fun _ => False) w4z wv from hHeld.trans hv (fun _ h _ => h))
        have HCN := hid (show Chg (fun _ => False) w7 wv from ((HCZ.out.trans CBB.out (fun _ h _ => h)).trans HZ4.out (fun _ h _ => h)).trans HZV.out (fun _ h _ => h))
        clear hv v0 v1 v2 v3 v4 v5 v6 v7 v8
        refine hK.out _ _ ?_ (fun hHeld2 => ?_)
        · (first | (with_reducible exact HZ.out) | (with_reducible exact Chg.alloc hHeld _) | (with_reducible exact Chg.drew (Chg.alloc (Chg.refl _ _) _)) | (with_reducible exact Chg.refl _ _) | (with_reducible exact HZV.out))
        clear hHeld hK K
        have hHeld := hHeld2
        clear hHeld2
        try simp only [Act.put, List.setIfInBounds_toArray, List.set_cons_zero, List.set_cons_succ]
        -- 8: t46 := binOp BinOp.neq 4 t39 t45 4 : 4
        refine wpB_take (i := 8) (v := ?_) (get_of_drop rfl) (by kernel_rfl) (by kernel_rfl) (by kernel_rfl) (by kernel_rfl) (fun _ _ _ h => h) (Or.inl ⟨by rfl, ?_⟩) hHeld ?_
        rotate_left
        · (intro w hSw; (try dsimp only at hSw); go_simp <;> with_reducible rfl)
        try simp only [Act.put, List.setIfInBounds_toArray, List.set_cons_zero, List.set_cons_succ]
        refine wpB_done (by kernel_rfl) ?_ _
        clear hHeld
        generalize entryR r = q
        cases q
        all_goals
          go_wp2_with fail
          go_roundw
          case measure => simp [intOf]; omega
          case rel => first | exact ⟨j + 1, hlt, by go_num, HCN.out⟩ | ((repeat apply Exists.intro); exact ⟨⟨j + 1, hlt, by go_num, HCN.out⟩, rfl⟩)
    · have hjn : j = n := by omega
      subst hjn
      go_wp2_with fail
      refine (encode_any (m := ⟨5, 0, 0, 0, 0, 0, 0, xs⟩) (HL.out.chg CR.out (fun _ _ h => h))).mono ?_
      rintro e w8 ⟨h8, he⟩
      have C8 := hid (CR.out.trans h8 (fun _ h _ => h))
      have HE := hid he
      obtain ⟨v4, code, hev⟩ : ∃ v code, e = .returned (.tuple #[v, .int .i64 code]) := by
        rcases he with ⟨_, rfl⟩ | ⟨_, _, rfl⟩ | ⟨_, _, _, _, rfl, _⟩ <;> exact ⟨_, _, rfl⟩
      subst hev
      clear h8 he
      go_wp2_with fail
      refine (encode_any (m := ⟨5, 0, 0, 0, 0, 0, 0, ys⟩) (HX.out.chg C8.out (fun _ _ h => h))).mono ?_
      rintro e w9 ⟨h9, he⟩
      have C9 := hid (C8.out.trans h9 (fun _ h _ => h))
      have C89 := hid h9
      clear h9
      rcases HE.out with ⟨hr, hv⟩ | ⟨hr, hlen, hv⟩ | ⟨hr, hlen, A', c', hv, hby⟩
      · injection hv with hv
        simp at hv
        obtain ⟨rfl, rfl⟩ := hv
        clear hr
        rcases he with ⟨_, rfl⟩ | ⟨_, _, rfl⟩ | ⟨_, _, _, _, rfl, _⟩
        all_goals
          go_wp2_with fail
          go_ret
          exact ⟨rfl, HFIN.out _ C9.out⟩
      · injection hv with hv
        simp at hv
        obtain ⟨rfl, rfl⟩ := hv
        clear hr hlen
        rcases he with ⟨_, rfl⟩ | ⟨_, _, rfl⟩ | ⟨_, _, _, _, rfl, _⟩
        all_goals
          go_wp2_with fail
          go_ret
          exact ⟨rfl, HFIN.out _ C9.out⟩
      injection hv with hv
      simp at hv
      obtain ⟨rfl, rfl⟩ := hv
      rcases he with ⟨_, rfl⟩ | ⟨_, _, rfl⟩ | ⟨hr', hlen', A'', c'', rfl, hby'⟩
      · clear hr hlen hby
        go_wp2_with fail
        go_ret
        exact ⟨rfl, HFIN.out _ C9.out⟩
      · clear hr hlen hby
        go_wp2_with fail
        go_ret
        exact ⟨rfl, HFIN.out _ C9.out⟩
      have HINJ := hid (show (bstr (msgB ⟨5, 0, 0, 0, 0, 0, 0, xs⟩) = bstr (msgB ⟨5, 0, 0, 0, 0, 0, 0, ys⟩)) ↔ xs = ys from ⟨fun e => by
        have q := msgB_inj hr hr' (bstr_inj e)
        injection q, fun e => by rw [e]⟩)
      have hs1 := hby.str C89.out (fun _ _ h => h)
      have hs2 := hby'.str (Chg.refl (fun _ => False) w9) (fun _ _ h => h)
      obtain ⟨b1, hb1⟩ : ∃ b1, b1 = msgB ⟨5, 0, 0, 0, 0, 0, 0, xs⟩ := ⟨_, rfl⟩
      obtain ⟨b2, hb2⟩ : ∃ b2, b2 = msgB ⟨5, 0, 0, 0, 0, 0, 0, ys⟩ := ⟨_, rfl⟩
      rw [← hb1] at hs1 ⊢
      rw [← hb2] at hs2 ⊢
      rw [← hb1, ← hb2] at HINJ
      clear hr hr' hlen hlen' hby hby' hb1 hb2 HE
      have HB := hid (show (decide (xs = ys) == ((bstr b1).toList == (bstr b2).toList)) = true from by
        rw [bstr_toList, bstr_toList]
        by_cases e : xs = ys
        · have e2 : b1 = b2 := bstr_inj (HINJ.out.2 e)
          simp [e, e2]
        · have e2 : b1 ≠ b2 := fun h => e (HINJ.out.1 (by rw [h]))
          simp [e, e2])
      go_wp2_with fail
      clear hs1 hs2
      go_ret
      exact ⟨by first | rfl | (show Ending.returned (Value.bool (decide (xs = ys) == ((bstr b1).toList == (bstr b2).toList))) = _; rw [HB.out]), HFIN.out _ C9.out⟩
end Go.Proofs.Ytcmfgijdelaelaa.Pa
