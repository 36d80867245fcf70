
/- The contracts of the document's log that writes, and of Bytes. -/

import Derived.Test.YtcmfgijdelaelaaPackQb

import Derived.Test.YtcmfgijdelaelaaPackG

namespace Go.Proofs.Ytcmfgijdelaelaa.Pa

set_option linter.unusedVariables false

set_option linter.unusedSimpArgs false

open Go.RowKit Go.Proofs.Ytcmfgijdelaelaa.C

attribute [local go_sem] max2_int min2_int max_two min_two

set_option maxHeartbeats 4000000 in
set_option maxRecDepth 100000 in
theorem reflog_any {w : World} {S R : Nat → Prop} {v : Value} {x : List UInt8} {xs : List Entry} {A : Option Addr} {n c : Nat} (h : Byt w S v x) (hl : Ty.At entryK w R A n c xs) (hR : ∀ k, R k → ¬ S k) (hok : ∀ e ∈ xs, EntryOk e) (hn : n ≤ 100) (hx : x.length ≤ 400000000) :
    Calls Try.prog 40 #[v, .slice A n c] w fun e' w' => ∃ v', e' = .returned v' ∧ ByTo S (x ++ logB xs) w w' v' := by
  have HB := hid h
  have HL := hid hl
  have HLB := hid hl.bound
  have L1 := hid hl.1
  have HR := hid hR
  have HOK := hid hok
  have hn2 : (n : Int) ≤ 100 := by omega
  clear h hl hR hok
  go_enter Try.func40, Try.ntmps40
  go_wp2_with fail
  refine (refnum_any (n := (n : Int)) HB.out ⟨by omega, by omega⟩ (by omega)).mono ?_
  rintro e' w1 ⟨v1, rfl, h1⟩
  have K1 := hid h1
  clear h1
  go_wp2_with fail
  go_loopw [0, 5] (fun bb i wr => ∃ k : Nat, k ≤ n ∧ i = .int .i64 k ∧ ByTo S (x ++ num n ++ (xs.take k).flatMap entryB) w wr bb) (fun _ i _ => n - (intOf i).toNat)
  case atStart => exact ⟨0, Nat.zero_le _, rfl, by simpa using K1.out⟩
  case round =>
    obtain ⟨k, hk, rfl, hT⟩ := hrel
    have HT := hid hT
    clear hT
    by_cases hlt : k < n
    · obtain ⟨r, hr⟩ : ∃ r, xs[k]? = some r := ⟨_, List.getElem?_eq_getElem (by have := L1.out; omega)⟩
      have HRO := hid (HOK.out r (List.mem_of_getElem? hr))
      obtain ⟨a, cs, ha, haR, hK, hcs⟩ := HLB.out.get (by decide) hr
      obtain ⟨E1, m1, d1, E2, m2, d2, rfl, hrw⟩ := entry_open (id hK)
      have HRW := hid hrw
      subst ha
      have hcs2 : ∀ j u, (entryCells r E1 m1 d1 E2 m2 d2)[j]? = some u → wr.cell? (a.add (k * 9 + j)) = some u := fun j u hj => HT.out.chg.cell (hcs j u hj) (by rw [add_block]; exact HR.out _ haR.1)
      have x0 := elem_cell0 hcs2 _ rfl
      have x1 := elem_cell hcs2 0 _ rfl
      have x2 := elem_cell hcs2 1 _ rfl
      have x3 := elem_cell hcs2 2 _ rfl
      have x4 := elem_cell hcs2 3 _ rfl
      have x5 := elem_cell hcs2 4 _ rfl
      have x6 := elem_cell hcs2 5 _ rfl
      have x7 := elem_cell hcs2 6 _ rfl
      have x8 := elem_cell hcs2 7 _ rfl
      have HRR := hid (ents_next hr)
      have hfl := ents_len HOK.out k
      clear hcs hK hcs2 hr haR hrw
      have hlt2 : (k : Int) < (n : Int) := by omega
      have BW := hid HT.out.byt.bound
      go_wp2_with fail
      refine (refentry_any (R := fun k => R k ∧ k < w.heap.size) (e := r) BW.out (HRW.out.chg HT.out.chg (fun k hk => HR.out k hk.1)) (fun k hk hs => by rcases hs.1 with q | q; exact HR.out k hk.1 q; have := hk.2; omega) HRO.out (by simp only [List.length_append, num_len]; omega)).mono ?_
      rintro e' w3 ⟨v3, rfl, h3⟩
      have HF := hid (HT.out.trans (ByTo.pre (Chg.refl _ _) h3 (fun k hk => .inl hk.1)))
      rw [HRR.out] at HF
      clear h3 hfl x0 x1 x2 x3 x4 x5 x6 x7 x8
      go_wp2_with fail
      go_roundw
      case measure => simp [intOf]; omega
      case rel => first | exact ⟨k + 1, hlt, by go_num, HF.out⟩ | ((repeat apply Exists.intro); exact ⟨⟨k + 1, hlt, by go_num, HF.out⟩, rfl⟩)
    · have hkn : ¬ (k : Int) < (n : Int) := by omega
      obtain rfl : k = n := by omega
      go_wp2_with fail
      go_ret
      refine ⟨_, rfl, ?_⟩
      have q1 := HT.out
      rw [List.take_of_length_le (by have := L1.out; omega)] at q1
      have l1 := L1.out
      unfold logB
      rw [← l1]
      simp only [List.append_assoc] at q1 ⊢
      exact q1

set_option maxHeartbeats 4000000 in
set_option maxRecDepth 100000 in
theorem refmsgbytes_any {w : World} {R : Nat → Prop} {m : Msg} {A : Option Addr} {n c : Nat} (hl : Ty.At entryK w R A n c m.log) (hok : MsgOk m) :
    Calls Try.prog 25 #[.agg (msgCells m A n c).toArray] w fun e' w' => ∃ v', e' = .returned v' ∧ ByTo (fun _ => False) (msgB m) w w' v' := by
  show Calls Try.prog _ #[.agg #[.int .i64 m.kind, .int .i64 m.view, .int .i64 m.src, .int .i64 m.dst, .int .i64 m.op, .int .i64 m.commit, .int .i64 m.normal, .slice A n c]] w _
  obtain ⟨w0, hw0⟩ : ∃ w0, w0 = w.alloc (.cells #[.int .i64 m.kind, .int .i64 m.view, .int .i64 m.src, .int .i64 m.dst, .int .i64 m.op, .int .i64 m.commit, .int .i64 m.normal, .slice A n c] 47) := ⟨_, rfl⟩
  have CB := hid (show Chg (fun _ => False) w w0 by rw [hw0]; exact (Chg.refl _ w).alloc _)
  have B1 := hid (show w0.heap[w.heap.size]? = some (.cells #[.int .i64 m.kind, .int .i64 m.view, .int .i64 m.src, .int .i64 m.dst, .int .i64 m.op, .int .i64 m.commit, .int .i64 m.normal, .slice A n c] 47 (0, 0)) by rw [hw0]; exact blk_new w _)
  have HQ := hid (hl.bound.chg CB.out (fun _ _ h => h))
  have L1 := hid hl.1
  have HOK := hid hok
  have hn : n ≤ 100 := by have := hok.len; have := L1.out; omega
  have BL := hid (lt_of_blk B1.out)
  clear hl hok
  have x0 : ∀ wx, Chg (fun _ => False) w0 wx → wx.cell? ⟨w.heap.size, 0, none⟩ = some (.int .i64 m.kind) := fun wx hx => hx.cell (by rw [cellAt B1.out]; rfl) (fun h => h)
  have x1 : ∀ wx, Chg (fun _ => False) w0 wx → wx.cell? ⟨w.heap.size, 1, none⟩ = some (.int .i64 m.view) := fun wx hx => hx.cell (by rw [cellAt B1.out]; rfl) (fun h => h)
  have x2 : ∀ wx, Chg (fun _ => False) w0 wx → wx.cell? ⟨w.heap.size, 2, none⟩ = some (.int .i64 m.src) := fun wx hx => hx.cell (by rw [cellAt B1.out]; rfl) (fun h => h)
  have x3 : ∀ wx, Chg (fun _ => False) w0 wx → wx.cell? ⟨w.heap.size, 3, none⟩ = some (.int .i64 m.dst) := fun wx hx => hx.cell (by rw [cellAt B1.out]; rfl) (fun h => h)
  have x4 : ∀ wx, Chg (fun _ => False) w0 wx → wx.cell? ⟨w.heap.size, 4, none⟩ = some (.int .i64 m.op) := fun wx hx => hx.cell (by rw [cellAt B1.out]; rfl) (fun h => h)
  have x5 : ∀ wx, Chg (fun _ => False) w0 wx → wx.cell? ⟨w.heap.size, 5, none⟩ = some (.int .i64 m.commit) := fun wx hx => hx.cell (by rw [cellAt B1.out]; rfl) (fun h => h)
  have x6 : ∀ wx, Chg (fun _ => False) w0 wx → wx.cell? ⟨w.heap.size, 6, none⟩ = some (.int .i64 m.normal) := fun wx hx => hx.cell (by rw [cellAt B1.out]; rfl) (fun h => h)
  have x7 : ∀ wx, Chg (fun _ => False) w0 wx → wx.cell? ⟨w.heap.size, 7, none⟩ = some (.slice A n c) := fun wx hx => hx.cell (by rw [cellAt B1.out]; rfl) (fun h => h)
  have a0 := hid (ByTo.refl (Byt.nil w0 (fun _ => False))).drew
  go_enter Try.func25, Try.ntmps25
  go_wp2_with fail
  rw [← hw0]
  clear hw0
  refine wpB_start (fun wx : World => Chg (fun _ => False) w0 wx) (by kernel_rfl) ?_
  have hHeld : (fun wx : World => Chg (fun _ => False) w0 wx) _ := (by first | assumption | exact Chg.drew (Chg.refl _ _) | (show _ ∧ _; refine ⟨?_, ?_⟩ <;> assumption) | first | assumption | exact a6.out.chg | exact a5.out.chg | exact a4.out.chg | exact a3.out.chg | exact a2.out.chg | exact a1.out.chg | exact a0.out.chg)
  -- 0: t4 := move t3 : 25
  refine wpB_take (i := 0) (v := ?_) (get_of_drop rfl) (by kernel_rfl) (by kernel_rfl) (by kernel_rfl) (by kernel_rfl) (fun _ _ _ h => h) (Or.inl ⟨by rfl, ?_⟩) hHeld ?_
  rotate_left
  · (intro w hSw; (try dsimp only at hSw); go_simp <;> with_reducible rfl)
  try simp only [Act.put, List.setIfInBounds_toArray, List.set_cons_zero, List.set_cons_succ]
  -- 1: t5 := fieldAddr 47 t1 0 : 0
  refine wpB_take (i := 1) (v := ?_) (get_of_drop rfl) (by kernel_rfl) (by kernel_rfl) (by kernel_rfl) (by kernel_rfl) (fun _ _ _ h => h) (Or.inl ⟨by rfl, ?_⟩) hHeld ?_
  rotate_left
  · (intro w hSw; (try dsimp only at hSw); go_simp <;> with_reducible rfl)
  try simp only [Act.put, List.setIfInBounds_toArray, List.set_cons_zero, List.set_cons_succ]
  -- 2: t6 := load 3 t5 : 3
  refine wpB_take (i := 2) (v := ?_) (get_of_drop rfl) (by kernel_rfl) (by kernel_rfl) (by kernel_rfl) (by kernel_rfl) (fun _ _ _ h => h) (Or.inl ⟨by rfl, ?_⟩) hHeld ?_
  rotate_left
  · (intro w hSw; (try dsimp only at hSw); go_simp <;> with_reducible rfl)
  try simp only [Act.put, List.setIfInBounds_toArray, List.set_cons_zero, List.set_cons_succ]
  -- 4: t8 := fieldAddr 47 t1 1 : 0
  refine wpB_take (i := 4) (v := ?_) (get_of_drop rfl) (by kernel_rfl) (by kernel_rfl) (by kernel_rfl) (by kernel_rfl) (fun _ _ _ h => h) (Or.inl ⟨by rfl, ?_⟩) hHeld ?_
  rotate_left
  · (intro w hSw; (try dsimp only at hSw); go_simp <;> with_reducible rfl)
  try simp only [Act.put, List.setIfInBounds_toArray, List.set_cons_zero, List.set_cons_succ]
  -- 5: t9 := load 3 t8 : 3
  refine wpB_take (i := 5) (v := ?_) (get_of_drop rfl) (by kernel_rfl) (by kernel_rfl) (by kernel_rfl) (by kernel_rfl) (fun _ _ _ h => h) (Or.inl ⟨by rfl, ?_⟩) hHeld ?_
  rotate_left
  · (intro w hSw; (try dsimp only at hSw); go_simp <;> with_reducible rfl)
  try simp only [Act.put, List.setIfInBounds_toArray, List.set_cons_zero, List.set_cons_succ]
  -- 7: t11 := fieldAddr 47 t1 2 : 0
  refine wpB_take (i := 7) (v := ?_) (get_of_drop rfl) (by kernel_rfl) (by kernel_rfl) (by kernel_rfl) (by kernel_rfl) (fun _ _ _ h => h) (Or.inl ⟨by rfl, ?_⟩) hHeld ?_
  rotate_left
  · (intro w hSw; (try dsimp only at hSw); go_simp <;> with_reducible rfl)
  try simp only [Act.put, List.setIfInBounds_toArray, List.set_cons_zero, List.set_cons_succ]
  -- 8: t12 := load 3 t11 : 3
  refine wpB_take (i := 8) (v := ?_) (get_of_drop rfl) (by kernel_rfl) (by kernel_rfl) (by kernel_rfl) (by kernel_rfl) (fun _ _ _ h => h) (Or.inl ⟨by rfl, ?_⟩) hHeld ?_
  rotate_left
  · (intro w hSw; (try dsimp only at hSw); go_simp <;> with_reducible rfl)
  try simp only [Act.put, List.setIfInBounds_toArray, List.set_cons_zero, List.set_cons_succ]
  -- 10: t14 := fieldAddr 47 t1 3 : 0
  refine wpB_take (i := 10) (v := ?_) (get_of_drop rfl) (by kernel_rfl) (by kernel_rfl) (by kernel_rfl) (by kernel_rfl) (fun _ _ _ h => h) (Or.inl ⟨by rfl, ?_⟩) hHeld ?_
  rotate_left
  · (intro w hSw; (try dsimp only at hSw); go_simp <;> with_reducible rfl)
  try simp only [Act.put, List.setIfInBounds_toArray, List.set_cons_zero, List.set_cons_succ]
  -- 11: t15 := load 3 t14 : 3
  refine wpB_take (i := 11) (v := ?_) (get_of_drop rfl) (by kernel_rfl) (by kernel_rfl) (by kernel_rfl) (by kernel_rfl) (fun _ _ _ h => h) (Or.inl ⟨by rfl, ?_⟩) hHeld ?_
  rotate_left
  · (intro w hSw; (try dsimp only at hSw); go_simp <;> with_reducible rfl)
  try simp only [Act.put, List.setIfInBounds_toArray, List.set_cons_zero, List.set_cons_succ]
  -- 3: t7 := CALL fn41(t4, t6) : 25
  refine wpB_act (i := 3) (by kernel_rfl) (get_of_drop rfl) (fun K hK => ?_)
  go_simp
  refine (refnum_any (n := m.kind) a0.out.byt (HOK.out.nums _ (by simp [Msg.nums])) (by (try simp only [List.length_append, num_len, flatMap_num_len, List.length_nil]); omega)).mono ?_
  rintro e' aw1 ⟨av1, rfl, h1⟩
  have a1 := hid (a0.out.trans h1)
  clear h1
  refine hK.out _ _ ?_ (fun hHeld2 => ?_)
  · first | assumption | exact a6.out.chg | exact a5.out.chg | exact a4.out.chg | exact a3.out.chg | exact a2.out.chg | exact a1.out.chg | exact a0.out.chg
  clear hHeld hK K
  have hHeld := hHeld2
  clear hHeld2
  try simp only [Act.put, List.setIfInBounds_toArray, List.set_cons_zero, List.set_cons_succ]
  -- 6: t10 := CALL fn41(t7, t9) : 25
  refine wpB_act (i := 6) (by kernel_rfl) (get_of_drop rfl) (fun K hK => ?_)
  go_simp
  refine (refnum_any (n := m.view) a1.out.byt (HOK.out.nums _ (by simp [Msg.nums])) (by (try simp only [List.length_append, num_len, flatMap_num_len, List.length_nil]); omega)).mono ?_
  rintro e' aw2 ⟨av2, rfl, h1⟩
  have a2 := hid (a1.out.trans h1)
  clear h1
  refine hK.out _ _ ?_ (fun hHeld2 => ?_)
  · first | assumption | exact a6.out.chg | exact a5.out.chg | exact a4.out.chg | exact a3.out.chg | exact a2.out.chg | exact a1.out.chg | exact a0.out.chg
  clear hHeld hK K
  have hHeld := hHeld2
  clear hHeld2
  try simp only [Act.put, List.setIfInBounds_toArray, List.set_cons_zero, List.set_cons_succ]
  -- 9: t13 := CALL fn41(t10, t12) : 25
  refine wpB_act (i := 9) (by kernel_rfl) (get_of_drop rfl) (fun K hK => ?_)
  go_simp
  refine (refnum_any (n := m.src) a2.out.byt (HOK.out.nums _ (by simp [Msg.nums])) (by (try simp only [List.length_append, num_len, flatMap_num_len, List.length_nil]); omega)).mono ?_
  rintro e' aw3 ⟨av3, rfl, h1⟩
  have a3 := hid (a2.out.trans h1)
  clear h1
  refine hK.out _ _ ?_ (fun hHeld2 => ?_)
  · first | assumption | exact a6.out.chg | exact a5.out.chg | exact a4.out.chg | exact a3.out.chg | exact a2.out.chg | exact a1.out.chg | exact a0.out.chg
  clear hHeld hK K
  have hHeld := hHeld2
  clear hHeld2
  try simp only [Act.put, List.setIfInBounds_toArray, List.set_cons_zero, List.set_cons_succ]
  -- 12: t16 := CALL fn41(t13, t15) : 25
  refine wpB_act (i := 12) (by kernel_rfl) (get_of_drop rfl) (fun K hK => ?_)
  go_simp
  refine (refnum_any (n := m.dst) a3.out.byt (HOK.out.nums _ (by simp [Msg.nums])) (by (try simp only [List.length_append, num_len, flatMap_num_len, List.length_nil]); omega)).mono ?_
  rintro e' aw4 ⟨av4, rfl, h1⟩
  have a4 := hid (a3.out.trans h1)
  clear h1
  refine hK.out _ _ ?_ (fun hHeld2 => ?_)
  · first | assumption | exact a6.out.chg | exact a5.out.chg | exact a4.out.chg | exact a3.out.chg | exact a2.out.chg | exact a1.out.chg | exact a0.out.chg
  clear hHeld hK K
  have hHeld := hHeld2
  clear hHeld2
  try simp only [Act.put, List.setIfInBounds_toArray, List.set_cons_zero, List.set_cons_succ]
  -- 13: t3 := assign t16 : 25
  refine wpB_take (i := 13) (v := ?_) (get_of_drop rfl) (by kernel_rfl) (by kernel_rfl) (by kernel_rfl) (by kernel_rfl) (fun _ _ _ h => h) (Or.inl ⟨by rfl, ?_⟩) hHeld ?_
  rotate_left
  · (intro w hSw; (try dsimp only at hSw); go_simp <;> with_reducible rfl)
  try simp only [Act.put, List.setIfInBounds_toArray, List.set_cons_zero, List.set_cons_succ]
  refine wpB_done (by kernel_rfl) ?_ _
  clear hHeld
  have hb0 : Chg (fun _ => False) w0 aw4.drew := a4.out.drew.chg
  have b0 := hid a4.out.drew
  go_wp2_with fail
  refine wpB_start (fun wx : World => Chg (fun _ => False) w0 wx) (by kernel_rfl) ?_
  have hHeld : (fun wx : World => Chg (fun _ => False) w0 wx) _ := (by first | assumption | exact Chg.drew (Chg.refl _ _) | (show _ ∧ _; refine ⟨?_, ?_⟩ <;> assumption) | first | assumption | exact b5.out.chg | exact b4.out.chg | exact b3.out.chg | exact b2.out.chg | exact b1.out.chg | exact b0.out.chg)
  -- 0: t17 := move t3 : 25
  refine wpB_take (i := 0) (v := ?_) (get_of_drop rfl) (by kernel_rfl) (by kernel_rfl) (by kernel_rfl) (by kernel_rfl) (fun _ _ _ h => h) (Or.inl ⟨by rfl, ?_⟩) hHeld ?_
  rotate_left
  · (intro w hSw; (try dsimp only at hSw); go_simp <;> with_reducible rfl)
  try simp only [Act.put, List.setIfInBounds_toArray, List.set_cons_zero, List.set_cons_succ]
  -- 1: t18 := fieldAddr 47 t1 4 : 0
  refine wpB_take (i := 1) (v := ?_) (get_of_drop rfl) (by kernel_rfl) (by kernel_rfl) (by kernel_rfl) (by kernel_rfl) (fun _ _ _ h => h) (Or.inl ⟨by rfl, ?_⟩) hHeld ?_
  rotate_left
  · (intro w hSw; (try dsimp only at hSw); go_simp <;> with_reducible rfl)
  try simp only [Act.put, List.setIfInBounds_toArray, List.set_cons_zero, List.set_cons_succ]
  -- 2: t19 := load 3 t18 : 3
  refine wpB_take (i := 2) (v := ?_) (get_of_drop rfl) (by kernel_rfl) (by kernel_rfl) (by kernel_rfl) (by kernel_rfl) (fun _ _ _ h => h) (Or.inl ⟨by rfl, ?_⟩) hHeld ?_
  rotate_left
  · (intro w hSw; (try dsimp only at hSw); go_simp <;> with_reducible rfl)
  try simp only [Act.put, List.setIfInBounds_toArray, List.set_cons_zero, List.set_cons_succ]
  -- 4: t21 := fieldAddr 47 t1 5 : 0
  refine wpB_take (i := 4) (v := ?_) (get_of_drop rfl) (by kernel_rfl) (by kernel_rfl) (by kernel_rfl) (by kernel_rfl) (fun _ _ _ h => h) (Or.inl ⟨by rfl, ?_⟩) hHeld ?_
  rotate_left
  · (intro w hSw; (try dsimp only at hSw); go_simp <;> with_reducible rfl)
  try simp only [Act.put, List.setIfInBounds_toArray, List.set_cons_zero, List.set_cons_succ]
  -- 5: t22 := load 3 t21 : 3
  refine wpB_take (i := 5) (v := ?_) (get_of_drop rfl) (by kernel_rfl) (by kernel_rfl) (by kernel_rfl) (by kernel_rfl) (fun _ _ _ h => h) (Or.inl ⟨by rfl, ?_⟩) hHeld ?_
  rotate_left
  · (intro w hSw; (try dsimp only at hSw); go_simp <;> with_reducible rfl)
  try simp only [Act.put, List.setIfInBounds_toArray, List.set_cons_zero, List.set_cons_succ]
  -- 7: t24 := fieldAddr 47 t1 6 : 0
  refine wpB_take (i := 7) (v := ?_) (get_of_drop rfl) (by kernel_rfl) (by kernel_rfl) (by kernel_rfl) (by kernel_rfl) (fun _ _ _ h => h) (Or.inl ⟨by rfl, ?_⟩) hHeld ?_
  rotate_left
  · (intro w hSw; (try dsimp only at hSw); go_simp <;> with_reducible rfl)
  try simp only [Act.put, List.setIfInBounds_toArray, List.set_cons_zero, List.set_cons_succ]
  -- 8: t25 := load 3 t24 : 3
  refine wpB_take (i := 8) (v := ?_) (get_of_drop rfl) (by kernel_rfl) (by kernel_rfl) (by kernel_rfl) (by kernel_rfl) (fun _ _ _ h => h) (Or.inl ⟨by rfl, ?_⟩) hHeld ?_
  rotate_left
  · (intro w hSw; (try dsimp only at hSw); go_simp <;> with_reducible rfl)
  try simp only [Act.put, List.setIfInBounds_toArray, List.set_cons_zero, List.set_cons_succ]
  -- 10: t27 := fieldAddr 47 t1 7 : 0
  refine wpB_take (i := 10) (v := ?_) (get_of_drop rfl) (by kernel_rfl) (by kernel_rfl) (by kernel_rfl) (by kernel_rfl) (fun _ _ _ h => h) (Or.inl ⟨by rfl, ?_⟩) hHeld ?_
  rotate_left
  · (intro w hSw; (try dsimp only at hSw); go_simp <;> with_reducible rfl)
  try simp only [Act.put, List.setIfInBounds_toArray, List.set_cons_zero, List.set_cons_succ]
  -- 11: t28 := load 28 t27 : 28
  refine wpB_take (i := 11) (v := ?_) (get_of_drop rfl) (by kernel_rfl) (by kernel_rfl) (by kernel_rfl) (by kernel_rfl) (fun _ _ _ h => h) (Or.inl ⟨by rfl, ?_⟩) hHeld ?_
  rotate_left
  · (intro w hSw; (try dsimp only at hSw); go_simp <;> with_reducible rfl)
  try simp only [Act.put, List.setIfInBounds_toArray, List.set_cons_zero, List.set_cons_succ]
  -- 3: t20 := CALL fn41(t17, t19) : 25
  refine wpB_act (i := 3) (by kernel_rfl) (get_of_drop rfl) (fun K hK => ?_)
  go_simp
  refine (refnum_any (n := m.op) b0.out.byt (HOK.out.nums _ (by simp [Msg.nums])) (by (try simp only [List.length_append, num_len, flatMap_num_len, List.length_nil]); omega)).mono ?_
  rintro e' bw1 ⟨bv1, rfl, h1⟩
  have b1 := hid (b0.out.trans h1)
  clear h1
  refine hK.out _ _ ?_ (fun hHeld2 => ?_)
  · first | assumption | exact b5.out.chg | exact b4.out.chg | exact b3.out.chg | exact b2.out.chg | exact b1.out.chg | exact b0.out.chg
  clear hHeld hK K
  have hHeld := hHeld2
  clear hHeld2
  try simp only [Act.put, List.setIfInBounds_toArray, List.set_cons_zero, List.set_cons_succ]
  -- 6: t23 := CALL fn41(t20, t22) : 25
  refine wpB_act (i := 6) (by kernel_rfl) (get_of_drop rfl) (fun K hK => ?_)
  go_simp
  refine (refnum_any (n := m.commit) b1.out.byt (HOK.out.nums _ (by simp [Msg.nums])) (by (try simp only [List.length_append, num_len, flatMap_num_len, List.length_nil]); omega)).mono ?_
  rintro e' bw2 ⟨bv2, rfl, h1⟩
  have b2 := hid (b1.out.trans h1)
  clear h1
  refine hK.out _ _ ?_ (fun hHeld2 => ?_)
  · first | assumption | exact b5.out.chg | exact b4.out.chg | exact b3.out.chg | exact b2.out.chg | exact b1.out.chg | exact b0.out.chg
  clear hHeld hK K
  have hHeld := hHeld2
  clear hHeld2
  try simp only [Act.put, List.setIfInBounds_toArray, List.set_cons_zero, List.set_cons_succ]
  -- 9: t26 := CALL fn41(t23, t25) : 25
  refine wpB_act (i := 9) (by kernel_rfl) (get_of_drop rfl) (fun K hK => ?_)
  go_simp
  refine (refnum_any (n := m.normal) b2.out.byt (HOK.out.nums _ (by simp [Msg.nums])) (by (try simp only [List.length_append, num_len, flatMap_num_len, List.length_nil]); omega)).mono ?_
  rintro e' bw3 ⟨bv3, rfl, h1⟩
  have b3 := hid (b2.out.trans h1)
  clear h1
  refine hK.out _ _ ?_ (fun hHeld2 => ?_)
  · first | assumption | exact b5.out.chg | exact b4.out.chg | exact b3.out.chg | exact b2.out.chg | exact b1.out.chg | exact b0.out.chg
  clear hHeld hK K
  have hHeld := hHeld2
  clear hHeld2
  try simp only [Act.put, List.setIfInBounds_toArray, List.set_cons_zero, List.set_cons_succ]
  -- 12: t29 := CALL fn40(t26, t28) : 25
  refine wpB_act (i := 12) (by kernel_rfl) (get_of_drop rfl) (fun K hK => ?_)
  go_simp
  have BW := hid b3.out.byt.bound
  refine (reflog_any (R := fun k => R k ∧ k < w.heap.size) BW.out (HQ.out.chg b3.out.chg (fun _ _ h => h)) (fun k hk hs => by have := hk.2; have := BL.out; rcases hs.1 with q | q; exact q; omega) HOK.out.log hn (by simp only [List.length_append, num_len, List.length_nil]; omega)).mono ?_
  rintro e' wz ⟨vz, rfl, hz⟩
  have b4 := hid (b3.out.trans (ByTo.pre (Chg.refl _ _) hz (fun k hk => .inl hk.1)))
  clear hz
  refine hK.out _ _ ?_ (fun hHeld2 => ?_)
  · first | assumption | exact b5.out.chg | exact b4.out.chg | exact b3.out.chg | exact b2.out.chg | exact b1.out.chg | exact b0.out.chg
  clear hHeld hK K
  have hHeld := hHeld2
  clear hHeld2
  try simp only [Act.put, List.setIfInBounds_toArray, List.set_cons_zero, List.set_cons_succ]
  -- 13: t2 := assign t29 : 25
  refine wpB_take (i := 13) (v := ?_) (get_of_drop rfl) (by kernel_rfl) (by kernel_rfl) (by kernel_rfl) (by kernel_rfl) (fun _ _ _ h => h) (Or.inl ⟨by rfl, ?_⟩) hHeld ?_
  rotate_left
  · (intro w hSw; (try dsimp only at hSw); go_simp <;> with_reducible rfl)
  try simp only [Act.put, List.setIfInBounds_toArray, List.set_cons_zero, List.set_cons_succ]
  refine wpB_done (by kernel_rfl) ?_ _
  clear hHeld
  go_wp2_with fail
  go_ret
  refine ⟨_, rfl, ?_⟩
  have q1 : ByTo (fun _ => False) _ w _ _ := ByTo.pre CB.out b4.out (fun k hk => .inl hk)
  unfold msgB
  simp only [Msg.nums, List.flatMap_cons, List.flatMap_nil, List.append_assoc, List.append_nil, List.nil_append] at q1 ⊢
  exact q1

set_option maxHeartbeats 4000000 in
set_option maxRecDepth 100000 in
theorem refrecbytes_any {w : World} {R : Nat → Prop} {m : Rec} {A : Option Addr} {n c : Nat} (hl : Ty.At entryK w R A n c m.log) (hok : RecOk m) :
    Calls Try.prog 17 #[.agg (recCells m A n c).toArray] w fun e' w' => ∃ v', e' = .returned v' ∧ ByTo (fun _ => False) (recB m) w w' v' := by
  show Calls Try.prog _ #[.agg #[.int .i64 m.kind, .int .i64 m.a, .int .i64 m.b, .slice A n c]] w _
  obtain ⟨w0, hw0⟩ : ∃ w0, w0 = w.alloc (.cells #[.int .i64 m.kind, .int .i64 m.a, .int .i64 m.b, .slice A n c] 30) := ⟨_, rfl⟩
  have CB := hid (show Chg (fun _ => False) w w0 by rw [hw0]; exact (Chg.refl _ w).alloc _)
  have B1 := hid (show w0.heap[w.heap.size]? = some (.cells #[.int .i64 m.kind, .int .i64 m.a, .int .i64 m.b, .slice A n c] 30 (0, 0)) by rw [hw0]; exact blk_new w _)
  have HQ := hid (hl.bound.chg CB.out (fun _ _ h => h))
  have L1 := hid hl.1
  have HOK := hid hok
  have hn : n ≤ 100 := by have := hok.len; have := L1.out; omega
  have BL := hid (lt_of_blk B1.out)
  clear hl hok
  have x0 : ∀ wx, Chg (fun _ => False) w0 wx → wx.cell? ⟨w.heap.size, 0, none⟩ = some (.int .i64 m.kind) := fun wx hx => hx.cell (by rw [cellAt B1.out]; rfl) (fun h => h)
  have x1 : ∀ wx, Chg (fun _ => False) w0 wx → wx.cell? ⟨w.heap.size, 1, none⟩ = some (.int .i64 m.a) := fun wx hx => hx.cell (by rw [cellAt B1.out]; rfl) (fun h => h)
  have x2 : ∀ wx, Chg (fun _ => False) w0 wx → wx.cell? ⟨w.heap.size, 2, none⟩ = some (.int .i64 m.b) := fun wx hx => hx.cell (by rw [cellAt B1.out]; rfl) (fun h => h)
  have x3 : ∀ wx, Chg (fun _ => False) w0 wx → wx.cell? ⟨w.heap.size, 3, none⟩ = some (.slice A n c) := fun wx hx => hx.cell (by rw [cellAt B1.out]; rfl) (fun h => h)
  have a0 := hid (ByTo.refl (Byt.nil w0 (fun _ => False))).drew
  go_enter Try.func17, Try.ntmps17
  go_wp2_with fail
  rw [← hw0]
  clear hw0
  refine wpB_start (fun wx : World => Chg (fun _ => False) w0 wx) (by kernel_rfl) ?_
  have hHeld : (fun wx : World => Chg (fun _ => False) w0 wx) _ := (by first | assumption | exact Chg.drew (Chg.refl _ _) | (show _ ∧ _; refine ⟨?_, ?_⟩ <;> assumption) | first | assumption | exact a5.out.chg | exact a4.out.chg | exact a3.out.chg | exact a2.out.chg | exact a1.out.chg | exact a0.out.chg)
  -- 0: t4 := move t3 : 25
  refine wpB_take (i := 0) (v := ?_) (get_of_drop rfl) (by kernel_rfl) (by kernel_rfl) (by kernel_rfl) (by kernel_rfl) (fun _ _ _ h => h) (Or.inl ⟨by rfl, ?_⟩) hHeld ?_
  rotate_left
  · (intro w hSw; (try dsimp only at hSw); go_simp <;> with_reducible rfl)
  try simp only [Act.put, List.setIfInBounds_toArray, List.set_cons_zero, List.set_cons_succ]
  -- 1: t5 := fieldAddr 30 t1 0 : 0
  refine wpB_take (i := 1) (v := ?_) (get_of_drop rfl) (by kernel_rfl) (by kernel_rfl) (by kernel_rfl) (by kernel_rfl) (fun _ _ _ h => h) (Or.inl ⟨by rfl, ?_⟩) hHeld ?_
  rotate_left
  · (intro w hSw; (try dsimp only at hSw); go_simp <;> with_reducible rfl)
  try simp only [Act.put, List.setIfInBounds_toArray, List.set_cons_zero, List.set_cons_succ]
  -- 2: t6 := load 3 t5 : 3
  refine wpB_take (i := 2) (v := ?_) (get_of_drop rfl) (by kernel_rfl) (by kernel_rfl) (by kernel_rfl) (by kernel_rfl) (fun _ _ _ h => h) (Or.inl ⟨by rfl, ?_⟩) hHeld ?_
  rotate_left
  · (intro w hSw; (try dsimp only at hSw); go_simp <;> with_reducible rfl)
  try simp only [Act.put, List.setIfInBounds_toArray, List.set_cons_zero, List.set_cons_succ]
  -- 4: t8 := fieldAddr 30 t1 1 : 0
  refine wpB_take (i := 4) (v := ?_) (get_of_drop rfl) (by kernel_rfl) (by kernel_rfl) (by kernel_rfl) (by kernel_rfl) (fun _ _ _ h => h) (Or.inl ⟨by rfl, ?_⟩) hHeld ?_
  rotate_left
  · (intro w hSw; (try dsimp only at hSw); go_simp <;> with_reducible rfl)
  try simp only [Act.put, List.setIfInBounds_toArray, List.set_cons_zero, List.set_cons_succ]
  -- 5: t9 := load 3 t8 : 3
  refine wpB_take (i := 5) (v := ?_) (get_of_drop rfl) (by kernel_rfl) (by kernel_rfl) (by kernel_rfl) (by kernel_rfl) (fun _ _ _ h => h) (Or.inl ⟨by rfl, ?_⟩) hHeld ?_
  rotate_left
  · (intro w hSw; (try dsimp only at hSw); go_simp <;> with_reducible rfl)
  try simp only [Act.put, List.setIfInBounds_toArray, List.set_cons_zero, List.set_cons_succ]
  -- 7: t11 := fieldAddr 30 t1 2 : 0
  refine wpB_take (i := 7) (v := ?_) (get_of_drop rfl) (by kernel_rfl) (by kernel_rfl) (by kernel_rfl) (by kernel_rfl) (fun _ _ _ h => h) (Or.inl ⟨by rfl, ?_⟩) hHeld ?_
  rotate_left
  · (intro w hSw; (try dsimp only at hSw); go_simp <;> with_reducible rfl)
  try simp only [Act.put, List.setIfInBounds_toArray, List.set_cons_zero, List.set_cons_succ]
  -- 8: t12 := load 3 t11 : 3
  refine wpB_take (i := 8) (v := ?_) (get_of_drop rfl) (by kernel_rfl) (by kernel_rfl) (by kernel_rfl) (by kernel_rfl) (fun _ _ _ h => h) (Or.inl ⟨by rfl, ?_⟩) hHeld ?_
  rotate_left
  · (intro w hSw; (try dsimp only at hSw); go_simp <;> with_reducible rfl)
  try simp only [Act.put, List.setIfInBounds_toArray, List.set_cons_zero, List.set_cons_succ]
  -- 10: t14 := fieldAddr 30 t1 3 : 0
  refine wpB_take (i := 10) (v := ?_) (get_of_drop rfl) (by kernel_rfl) (by kernel_rfl) (by kernel_rfl) (by kernel_rfl) (fun _ _ _ h => h) (Or.inl ⟨by rfl, ?_⟩) hHeld ?_
  rotate_left
  · (intro w hSw; (try dsimp only at hSw); go_simp <;> with_reducible rfl)
  try simp only [Act.put, List.setIfInBounds_toArray, List.set_cons_zero, List.set_cons_succ]
  -- 11: t15 := load 28 t14 : 28
  refine wpB_take (i := 11) (v := ?_) (get_of_drop rfl) (by kernel_rfl) (by kernel_rfl) (by kernel_rfl) (by kernel_rfl) (fun _ _ _ h => h) (Or.inl ⟨by rfl, ?_⟩) hHeld ?_
  rotate_left
  · (intro w hSw; (try dsimp only at hSw); go_simp <;> with_reducible rfl)
  try simp only [Act.put, List.setIfInBounds_toArray, List.set_cons_zero, List.set_cons_succ]
  -- 3: t7 := CALL fn41(t4, t6) : 25
  refine wpB_act (i := 3) (by kernel_rfl) (get_of_drop rfl) (fun K hK => ?_)
  go_simp
  refine (refnum_any (n := m.kind) a0.out.byt (HOK.out.nums _ (by simp [Rec.nums])) (by (try simp only [List.length_append, num_len, flatMap_num_len, List.length_nil]); omega)).mono ?_
  rintro e' aw1 ⟨av1, rfl, h1⟩
  have a1 := hid (a0.out.trans h1)
  clear h1
  refine hK.out _ _ ?_ (fun hHeld2 => ?_)
  · first | assumption | exact a5.out.chg | exact a4.out.chg | exact a3.out.chg | exact a2.out.chg | exact a1.out.chg | exact a0.out.chg
  clear hHeld hK K
  have hHeld := hHeld2
  clear hHeld2
  try simp only [Act.put, List.setIfInBounds_toArray, List.set_cons_zero, List.set_cons_succ]
  -- 6: t10 := CALL fn41(t7, t9) : 25
  refine wpB_act (i := 6) (by kernel_rfl) (get_of_drop rfl) (fun K hK => ?_)
  go_simp
  refine (refnum_any (n := m.a) a1.out.byt (HOK.out.nums _ (by simp [Rec.nums])) (by (try simp only [List.length_append, num_len, flatMap_num_len, List.length_nil]); omega)).mono ?_
  rintro e' aw2 ⟨av2, rfl, h1⟩
  have a2 := hid (a1.out.trans h1)
  clear h1
  refine hK.out _ _ ?_ (fun hHeld2 => ?_)
  · first | assumption | exact a5.out.chg | exact a4.out.chg | exact a3.out.chg | exact a2.out.chg | exact a1.out.chg | exact a0.out.chg
  clear hHeld hK K
  have hHeld := hHeld2
  clear hHeld2
  try simp only [Act.put, List.setIfInBounds_toArray, List.set_cons_zero, List.set_cons_succ]
  -- 9: t13 := CALL fn41(t10, t12) : 25
  refine wpB_act (i := 9) (by kernel_rfl) (get_of_drop rfl) (fun K hK => ?_)
  go_simp
  refine (refnum_any (n := m.b) a2.out.byt (HOK.out.nums _ (by simp [Rec.nums])) (by (try simp only [List.length_append, num_len, flatMap_num_len, List.length_nil]); omega)).mono ?_
  rintro e' aw3 ⟨av3, rfl, h1⟩
  have a3 := hid (a2.out.trans h1)
  clear h1
  refine hK.out _ _ ?_ (fun hHeld2 => ?_)
  · first | assumption | exact a5.out.chg | exact a4.out.chg | exact a3.out.chg | exact a2.out.chg | exact a1.out.chg | exact a0.out.chg
  clear hHeld hK K
  have hHeld := hHeld2
  clear hHeld2
  try simp only [Act.put, List.setIfInBounds_toArray, List.set_cons_zero, List.set_cons_succ]
  -- 12: t16 := CALL fn40(t13, t15) : 25
  refine wpB_act (i := 12) (by kernel_rfl) (get_of_drop rfl) (fun K hK => ?_)
  go_simp
  have BW := hid a3.out.byt.bound
  refine (reflog_any (R := fun k => R k ∧ k < w.heap.size) BW.out (HQ.out.chg a3.out.chg (fun _ _ h => h)) (fun k hk hs => by have := hk.2; have := BL.out; rcases hs.1 with q | q; exact q; omega) HOK.out.log hn (by simp only [List.length_append, num_len, List.length_nil]; omega)).mono ?_
  rintro e' wz ⟨vz, rfl, hz⟩
  have a4 := hid (a3.out.trans (ByTo.pre (Chg.refl _ _) hz (fun k hk => .inl hk.1)))
  clear hz
  refine hK.out _ _ ?_ (fun hHeld2 => ?_)
  · first | assumption | exact a5.out.chg | exact a4.out.chg | exact a3.out.chg | exact a2.out.chg | exact a1.out.chg | exact a0.out.chg
  clear hHeld hK K
  have hHeld := hHeld2
  clear hHeld2
  try simp only [Act.put, List.setIfInBounds_toArray, List.set_cons_zero, List.set_cons_succ]
  -- 13: t2 := assign t16 : 25
  refine wpB_take (i := 13) (v := ?_) (get_of_drop rfl) (by kernel_rfl) (by kernel_rfl) (by kernel_rfl) (by kernel_rfl) (fun _ _ _ h => h) (Or.inl ⟨by rfl, ?_⟩) hHeld ?_
  rotate_left
  · (intro w hSw; (try dsimp only at hSw); go_simp <;> with_reducible rfl)
  try simp only [Act.put, List.setIfInBounds_toArray, List.set_cons_zero, List.set_cons_succ]
  refine wpB_done (by kernel_rfl) ?_ _
  clear hHeld
  go_wp2_with fail
  go_ret
  refine ⟨_, rfl, ?_⟩
  have q1 : ByTo (fun _ => False) _ w _ _ := ByTo.pre CB.out a4.out (fun k hk => .inl hk)
  unfold recB
  simp only [Rec.nums, List.flatMap_cons, List.flatMap_nil, List.append_assoc, List.append_nil, List.nil_append] at q1 ⊢
  exact q1
end Go.Proofs.Ytcmfgijdelaelaa.Pa
