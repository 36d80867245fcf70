
/- The contracts of the codec's entry. -/

import Derived.Test.YtcmfgijdelaelaaPackLi

namespace Go.Proofs.Ytcmfgijdelaelaa.Pa

set_option linter.unusedVariables false

set_option linter.unusedSimpArgs false

open Go.RowKit Go.Proofs.Ytcmfgijdelaelaa.C

attribute [local go_sem] max2_int min2_int max_two min_two

/-- What an entry may be that is written. -/
structure EntryOk (e : Entry) : Prop where
  nums : ∀ u ∈ e.nums, NumOk u
  put : ∀ r ∈ e.put, RuleOk r
  drop : ∀ u ∈ e.drop, NumOk u
  putl : e.put.length ≤ 100
  dropl : e.drop.length ≤ 100
theorem entryB_eq (e : Entry) : entryB e = e.nums.flatMap num ++ num e.put.length ++ e.put.flatMap ruleB ++ num e.drop.length ++ e.drop.flatMap num := by
  simp [entryB, Entry.nums]
theorem entryB_len {e : Entry} (h : EntryOk e) : (entryB e).length ≤ 110000 := by
  have h1 := rules_len h.put e.put.length
  have h2 := nums_len h.drop e.drop.length
  rw [List.take_length] at h1 h2
  rw [entryB_eq]
  simp only [List.length_append, num_len]
  have h3 : (e.nums.flatMap num).length = 42 := by rw [flatMap_num_len]; rfl
  have h4 := h.putl
  have h5 := h.dropl
  omega

set_option maxHeartbeats 4000000 in
set_option maxRecDepth 100000 in
theorem entry_w {w : World} {S R : Nat → Prop} {g p tp : Nat} {v : Value} {x : List UInt8} {e : Entry} {A1 : Option Addr} {n1 c1 : Nat} {A2 : Option Addr} {n2 c2 : Nat} (h : Wr w S g v x) (hp : w.heap[p]? = some (.cells (entryCells e A1 n1 c1 A2 n2 c2).toArray tp (0, 0))) (hpS : ¬ S p)
    (he : EntryAt w R e A1 n1 c1 A2 n2 c2) (hR : ∀ k, R k → ¬ S k) (hok : EntryOk e) (hx : x.length ≤ 500000000) :
    Calls Try.prog 57 #[.pointer (some ⟨g, 0, none⟩), .pointer (some ⟨p, 0, none⟩)] w fun e' w' => e' = .returned (.tuple #[]) ∧ WrTo S g (x ++ entryB e) w w' := by
  have HB := hid h.bound
  have HP := hid hp
  have HPL := hid (lt_of_blk hp)
  have HE1 := hid he.2.1.bound
  have HE2 := hid he.2.2.bound
  have HR := hid hR
  have HOK := hid hok
  obtain ⟨wb, hwb⟩ : ∃ wb, wb = w.alloc (.cells #[.pointer (some ⟨g, 0, none⟩)] 73) := ⟨_, rfl⟩
  have CB := hid (show Chg (fun _ => False) w wb by rw [hwb]; exact (Chg.refl _ w).alloc _)
  have BB := hid (show wb.heap[w.heap.size]? = some (.cells #[.pointer (some ⟨g, 0, none⟩)] 73 (0, 0)) by rw [hwb]; exact blk_new w _)
  have BL := hid (show w.heap.size < wb.heap.size from lt_of_blk BB.out)
  have hbx : wb.cell? ⟨w.heap.size, 0, none⟩ = some (.pointer (some ⟨g, 0, none⟩)) := by rw [cellAt BB.out]; rfl
  clear h hp hok he hR
  go_enter Try.func57, Try.ntmps57
  go_wp2_with fail
  rw [← hwb]
  clear hwb
  refine wpB_start (fun wx : World => wx.cell? ⟨w.heap.size, 0, none⟩ = some (.pointer (some ⟨g, 0, none⟩))) (by kernel_rfl) ?_
  have hHeld : (fun wx : World => wx.cell? ⟨w.heap.size, 0, none⟩ = some (.pointer (some ⟨g, 0, none⟩))) _ := (by first | assumption | exact Chg.drew (Chg.refl _ _) | (show _ ∧ _; refine ⟨?_, ?_⟩ <;> assumption) | first | assumption | exact hbx | exact ((Chg.refl (fun _ => False) wb).alloc _).drew.cell hbx (fun h => h))
  -- 0: t4 := load 73 t2 : 73
  refine wpB_take (i := 0) (v := ?_) (get_of_drop rfl) (by kernel_rfl) (by kernel_rfl) (by kernel_rfl) (by kernel_rfl) (fun _ _ _ h => h) (Or.inl ⟨by rfl, ?_⟩) hHeld ?_
  rotate_left
  · (intro w hSw; (try dsimp only at hSw); go_simp <;> with_reducible rfl)
  try simp only [Act.put, List.setIfInBounds_toArray, List.set_cons_zero, List.set_cons_succ]
  -- 1: t5 := move t1 : 118
  refine wpB_take (i := 1) (v := ?_) (get_of_drop rfl) (by kernel_rfl) (by kernel_rfl) (by kernel_rfl) (by kernel_rfl) (fun _ _ _ h => h) (Or.inl ⟨by rfl, ?_⟩) hHeld ?_
  rotate_left
  · (intro w hSw; (try dsimp only at hSw); go_simp <;> with_reducible rfl)
  try simp only [Act.put, List.setIfInBounds_toArray, List.set_cons_zero, List.set_cons_succ]
  -- 2: t6 := nilCheck t5 : 0
  refine wpB_take (i := 2) (v := ?_) (get_of_drop rfl) (by kernel_rfl) (by kernel_rfl) (by kernel_rfl) (by kernel_rfl) (fun _ _ _ h => h) (Or.inl ⟨by rfl, ?_⟩) hHeld ?_
  rotate_left
  · (intro w hSw; (try dsimp only at hSw); go_simp <;> with_reducible rfl)
  try simp only [Act.put, List.setIfInBounds_toArray, List.set_cons_zero, List.set_cons_succ]
  -- 3: t7 := fieldAddr 65 t6 0 : 0
  refine wpB_take (i := 3) (v := ?_) (get_of_drop rfl) (by kernel_rfl) (by kernel_rfl) (by kernel_rfl) (by kernel_rfl) (fun _ _ _ h => h) (Or.inl ⟨by rfl, ?_⟩) hHeld ?_
  rotate_left
  · (intro w hSw; (try dsimp only at hSw); go_simp <;> with_reducible rfl)
  try simp only [Act.put, List.setIfInBounds_toArray, List.set_cons_zero, List.set_cons_succ]
  -- 4: t8 := move t1 : 118
  refine wpB_take (i := 4) (v := ?_) (get_of_drop rfl) (by kernel_rfl) (by kernel_rfl) (by kernel_rfl) (by kernel_rfl) (fun _ _ _ h => h) (Or.inl ⟨by rfl, ?_⟩) hHeld ?_
  rotate_left
  · (intro w hSw; (try dsimp only at hSw); go_simp <;> with_reducible rfl)
  try simp only [Act.put, List.setIfInBounds_toArray, List.set_cons_zero, List.set_cons_succ]
  -- 5: t9 := nilCheck t8 : 0
  refine wpB_take (i := 5) (v := ?_) (get_of_drop rfl) (by kernel_rfl) (by kernel_rfl) (by kernel_rfl) (by kernel_rfl) (fun _ _ _ h => h) (Or.inl ⟨by rfl, ?_⟩) hHeld ?_
  rotate_left
  · (intro w hSw; (try dsimp only at hSw); go_simp <;> with_reducible rfl)
  try simp only [Act.put, List.setIfInBounds_toArray, List.set_cons_zero, List.set_cons_succ]
  -- 6: t10 := fieldAddr 65 t9 1 : 0
  refine wpB_take (i := 6) (v := ?_) (get_of_drop rfl) (by kernel_rfl) (by kernel_rfl) (by kernel_rfl) (by kernel_rfl) (fun _ _ _ h => h) (Or.inl ⟨by rfl, ?_⟩) hHeld ?_
  rotate_left
  · (intro w hSw; (try dsimp only at hSw); go_simp <;> with_reducible rfl)
  try simp only [Act.put, List.setIfInBounds_toArray, List.set_cons_zero, List.set_cons_succ]
  -- 7: t11 := move t1 : 118
  refine wpB_take (i := 7) (v := ?_) (get_of_drop rfl) (by kernel_rfl) (by kernel_rfl) (by kernel_rfl) (by kernel_rfl) (fun _ _ _ h => h) (Or.inl ⟨by rfl, ?_⟩) hHeld ?_
  rotate_left
  · (intro w hSw; (try dsimp only at hSw); go_simp <;> with_reducible rfl)
  try simp only [Act.put, List.setIfInBounds_toArray, List.set_cons_zero, List.set_cons_succ]
  -- 8: t12 := nilCheck t11 : 0
  refine wpB_take (i := 8) (v := ?_) (get_of_drop rfl) (by kernel_rfl) (by kernel_rfl) (by kernel_rfl) (by kernel_rfl) (fun _ _ _ h => h) (Or.inl ⟨by rfl, ?_⟩) hHeld ?_
  rotate_left
  · (intro w hSw; (try dsimp only at hSw); go_simp <;> with_reducible rfl)
  try simp only [Act.put, List.setIfInBounds_toArray, List.set_cons_zero, List.set_cons_succ]
  -- 9: t13 := fieldAddr 65 t12 2 : 0
  refine wpB_take (i := 9) (v := ?_) (get_of_drop rfl) (by kernel_rfl) (by kernel_rfl) (by kernel_rfl) (by kernel_rfl) (fun _ _ _ h => h) (Or.inl ⟨by rfl, ?_⟩) hHeld ?_
  rotate_left
  · (intro w hSw; (try dsimp only at hSw); go_simp <;> with_reducible rfl)
  try simp only [Act.put, List.setIfInBounds_toArray, List.set_cons_zero, List.set_cons_succ]
  -- 10: t14 := move t1 : 118
  refine wpB_take (i := 10) (v := ?_) (get_of_drop rfl) (by kernel_rfl) (by kernel_rfl) (by kernel_rfl) (by kernel_rfl) (fun _ _ _ h => h) (Or.inl ⟨by rfl, ?_⟩) hHeld ?_
  rotate_left
  · (intro w hSw; (try dsimp only at hSw); go_simp <;> with_reducible rfl)
  try simp only [Act.put, List.setIfInBounds_toArray, List.set_cons_zero, List.set_cons_succ]
  -- 11: t15 := nilCheck t14 : 0
  refine wpB_take (i := 11) (v := ?_) (get_of_drop rfl) (by kernel_rfl) (by kernel_rfl) (by kernel_rfl) (by kernel_rfl) (fun _ _ _ h => h) (Or.inl ⟨by rfl, ?_⟩) hHeld ?_
  rotate_left
  · (intro w hSw; (try dsimp only at hSw); go_simp <;> with_reducible rfl)
  try simp only [Act.put, List.setIfInBounds_toArray, List.set_cons_zero, List.set_cons_succ]
  -- 12: t16 := fieldAddr 65 t15 3 : 0
  refine wpB_take (i := 12) (v := ?_) (get_of_drop rfl) (by kernel_rfl) (by kernel_rfl) (by kernel_rfl) (by kernel_rfl) (fun _ _ _ h => h) (Or.inl ⟨by rfl, ?_⟩) hHeld ?_
  rotate_left
  · (intro w hSw; (try dsimp only at hSw); go_simp <;> with_reducible rfl)
  try simp only [Act.put, List.setIfInBounds_toArray, List.set_cons_zero, List.set_cons_succ]
  -- 13: t17 := fieldAddr 63 t16 0 : 0
  refine wpB_take (i := 13) (v := ?_) (get_of_drop rfl) (by kernel_rfl) (by kernel_rfl) (by kernel_rfl) (by kernel_rfl) (fun _ _ _ h => h) (Or.inl ⟨by rfl, ?_⟩) hHeld ?_
  rotate_left
  · (intro w hSw; (try dsimp only at hSw); go_simp <;> with_reducible rfl)
  try simp only [Act.put, List.setIfInBounds_toArray, List.set_cons_zero, List.set_cons_succ]
  -- 14: t18 := move t1 : 118
  refine wpB_take (i := 14) (v := ?_) (get_of_drop rfl) (by kernel_rfl) (by kernel_rfl) (by kernel_rfl) (by kernel_rfl) (fun _ _ _ h => h) (Or.inl ⟨by rfl, ?_⟩) hHeld ?_
  rotate_left
  · (intro w hSw; (try dsimp only at hSw); go_simp <;> with_reducible rfl)
  try simp only [Act.put, List.setIfInBounds_toArray, List.set_cons_zero, List.set_cons_succ]
  -- 15: t19 := nilCheck t18 : 0
  refine wpB_take (i := 15) (v := ?_) (get_of_drop rfl) (by kernel_rfl) (by kernel_rfl) (by kernel_rfl) (by kernel_rfl) (fun _ _ _ h => h) (Or.inl ⟨by rfl, ?_⟩) hHeld ?_
  rotate_left
  · (intro w hSw; (try dsimp only at hSw); go_simp <;> with_reducible rfl)
  try simp only [Act.put, List.setIfInBounds_toArray, List.set_cons_zero, List.set_cons_succ]
  -- 16: t20 := fieldAddr 65 t19 3 : 0
  refine wpB_take (i := 16) (v := ?_) (get_of_drop rfl) (by kernel_rfl) (by kernel_rfl) (by kernel_rfl) (by kernel_rfl) (fun _ _ _ h => h) (Or.inl ⟨by rfl, ?_⟩) hHeld ?_
  rotate_left
  · (intro w hSw; (try dsimp only at hSw); go_simp <;> with_reducible rfl)
  try simp only [Act.put, List.setIfInBounds_toArray, List.set_cons_zero, List.set_cons_succ]
  -- 17: t21 := fieldAddr 63 t20 1 : 0
  refine wpB_take (i := 17) (v := ?_) (get_of_drop rfl) (by kernel_rfl) (by kernel_rfl) (by kernel_rfl) (by kernel_rfl) (fun _ _ _ h => h) (Or.inl ⟨by rfl, ?_⟩) hHeld ?_
  rotate_left
  · (intro w hSw; (try dsimp only at hSw); go_simp <;> with_reducible rfl)
  try simp only [Act.put, List.setIfInBounds_toArray, List.set_cons_zero, List.set_cons_succ]
  -- 18: t22 := move t1 : 118
  refine wpB_take (i := 18) (v := ?_) (get_of_drop rfl) (by kernel_rfl) (by kernel_rfl) (by kernel_rfl) (by kernel_rfl) (fun _ _ _ h => h) (Or.inl ⟨by rfl, ?_⟩) hHeld ?_
  rotate_left
  · (intro w hSw; (try dsimp only at hSw); go_simp <;> with_reducible rfl)
  try simp only [Act.put, List.setIfInBounds_toArray, List.set_cons_zero, List.set_cons_succ]
  -- 19: t23 := nilCheck t22 : 0
  refine wpB_take (i := 19) (v := ?_) (get_of_drop rfl) (by kernel_rfl) (by kernel_rfl) (by kernel_rfl) (by kernel_rfl) (fun _ _ _ h => h) (Or.inl ⟨by rfl, ?_⟩) hHeld ?_
  rotate_left
  · (intro w hSw; (try dsimp only at hSw); go_simp <;> with_reducible rfl)
  try simp only [Act.put, List.setIfInBounds_toArray, List.set_cons_zero, List.set_cons_succ]
  -- 20: t24 := fieldAddr 65 t23 3 : 0
  refine wpB_take (i := 20) (v := ?_) (get_of_drop rfl) (by kernel_rfl) (by kernel_rfl) (by kernel_rfl) (by kernel_rfl) (fun _ _ _ h => h) (Or.inl ⟨by rfl, ?_⟩) hHeld ?_
  rotate_left
  · (intro w hSw; (try dsimp only at hSw); go_simp <;> with_reducible rfl)
  try simp only [Act.put, List.setIfInBounds_toArray, List.set_cons_zero, List.set_cons_succ]
  -- 21: t25 := fieldAddr 63 t24 2 : 0
  refine wpB_take (i := 21) (v := ?_) (get_of_drop rfl) (by kernel_rfl) (by kernel_rfl) (by kernel_rfl) (by kernel_rfl) (fun _ _ _ h => h) (Or.inl ⟨by rfl, ?_⟩) hHeld ?_
  rotate_left
  · (intro w hSw; (try dsimp only at hSw); go_simp <;> with_reducible rfl)
  try simp only [Act.put, List.setIfInBounds_toArray, List.set_cons_zero, List.set_cons_succ]
  -- 22: t26 := move t1 : 118
  refine wpB_take (i := 22) (v := ?_) (get_of_drop rfl) (by kernel_rfl) (by kernel_rfl) (by kernel_rfl) (by kernel_rfl) (fun _ _ _ h => h) (Or.inl ⟨by rfl, ?_⟩) hHeld ?_
  rotate_left
  · (intro w hSw; (try dsimp only at hSw); go_simp <;> with_reducible rfl)
  try simp only [Act.put, List.setIfInBounds_toArray, List.set_cons_zero, List.set_cons_succ]
  -- 23: t27 := nilCheck t26 : 0
  refine wpB_take (i := 23) (v := ?_) (get_of_drop rfl) (by kernel_rfl) (by kernel_rfl) (by kernel_rfl) (by kernel_rfl) (fun _ _ _ h => h) (Or.inl ⟨by rfl, ?_⟩) hHeld ?_
  rotate_left
  · (intro w hSw; (try dsimp only at hSw); go_simp <;> with_reducible rfl)
  try simp only [Act.put, List.setIfInBounds_toArray, List.set_cons_zero, List.set_cons_succ]
  -- 24: t28 := fieldAddr 65 t27 3 : 0
  refine wpB_take (i := 24) (v := ?_) (get_of_drop rfl) (by kernel_rfl) (by kernel_rfl) (by kernel_rfl) (by kernel_rfl) (fun _ _ _ h => h) (Or.inl ⟨by rfl, ?_⟩) hHeld ?_
  rotate_left
  · (intro w hSw; (try dsimp only at hSw); go_simp <;> with_reducible rfl)
  try simp only [Act.put, List.setIfInBounds_toArray, List.set_cons_zero, List.set_cons_succ]
  -- 25: t29 := fieldAddr 63 t28 3 : 0
  refine wpB_take (i := 25) (v := ?_) (get_of_drop rfl) (by kernel_rfl) (by kernel_rfl) (by kernel_rfl) (by kernel_rfl) (fun _ _ _ h => h) (Or.inl ⟨by rfl, ?_⟩) hHeld ?_
  rotate_left
  · (intro w hSw; (try dsimp only at hSw); go_simp <;> with_reducible rfl)
  try simp only [Act.put, List.setIfInBounds_toArray, List.set_cons_zero, List.set_cons_succ]
  -- 26: t30 := buildSlice 115 7 [⟨0, t7⟩, ⟨1, t10⟩, ⟨2, t13⟩, ⟨3, t17⟩, ⟨4, t21⟩, ⟨5, t25⟩, ⟨6, t29⟩] : 115
  refine wpB_act (i := 26) (by kernel_rfl) (get_of_drop rfl) (fun K hK => ?_)
  go_simp
  refine hK.out _ _ ?_ (fun hHeld2 => ?_)
  · first | assumption | exact hbx | exact ((Chg.refl (fun _ => False) wb).alloc _).drew.cell hbx (fun h => h)
  clear hHeld hK K
  have hHeld := hHeld2
  clear hHeld2
  try simp only [Act.put, List.setIfInBounds_toArray, List.set_cons_zero, List.set_cons_succ]
  -- 27: t31 := CALL fn55(t4, t30) : 0
  refine wpB_act (i := 27) (by kernel_rfl) (get_of_drop rfl) (fun K hK => ?_)
  go_simp
  have CC := hid (show Chg (fun _ => False) w (wb.alloc (.cells (ptrs p 7).toArray 102)).drew from (CB.out.alloc _).drew)
  refine (num_w (S := fun k => S k ∧ k < w.heap.size) (vs := e.nums) (p := p) (R := fun k => k = wb.heap.size) (HB.out.chg CC.out (fun _ _ h => h)) (lit_sees wb (ptrs p 7).toArray 102) (fun k hk hs => by have := hs.2; have := BL.out; omega) (fun i u hi => by
    rw [cellAt (CC.out.blk HP.out (fun h => h))]
    exact ints_at hi _) (fun hs => hpS hs.1) (fun u hu => HOK.out.nums u hu) (by omega) (by show 7 ≤ 7; omega)).mono ?_
  rintro e' w1 ⟨rfl, h1⟩
  have HT := hid (WrTo.pre (w := wb) (S := fun k => S k ∧ k < w.heap.size) ((Chg.refl _ wb).alloc _).drew h1 (fun k hk => .inl hk))
  have hb1 : w1.cell? ⟨w.heap.size, 0, none⟩ = some (.pointer (some ⟨g, 0, none⟩)) := (by obtain ⟨v1, _, hc⟩ := h1; exact hc.cell (((Chg.refl (fun _ => False) wb).alloc _).drew.cell hbx (fun h => h)) (fun hs => Nat.lt_irrefl _ hs.2))
  clear h1
  refine hK.out _ _ ?_ (fun hHeld2 => ?_)
  · first | assumption | exact hbx | exact ((Chg.refl (fun _ => False) wb).alloc _).drew.cell hbx (fun h => h)
  clear hHeld hK K
  have hHeld := hHeld2
  clear hHeld2
  try simp only [Act.put, List.setIfInBounds_toArray, List.set_cons_zero, List.set_cons_succ]
  refine wpB_done (by kernel_rfl) ?_ _
  clear hHeld
  have HN1 := hid HE1.out.1
  have HN2 := hid HE2.out.1
  have HFAR := hid (show ∀ (W : World) k, k < wb.heap.size → (k < w.heap.size → ¬ S k) → ¬ (((S k ∧ k < w.heap.size) ∨ wb.heap.size ≤ k) ∧ k < W.heap.size) from fun W k h1 h2 h3 => by
    rcases h3.1 with q | q
    · exact h2 q.2 q.1
    · omega)
  obtain ⟨v1, hv1, hc1⟩ := HT.out
  have H1 := hid hv1.bound
  have HBX1 := hid hb1
  have HC1 := hid (show Chg (fun k => S k ∧ k < w.heap.size) w w1 from (CB.out.mono (fun _ h _ => h.elim)).trans hc1 (fun _ h _ => h))
  clear hv1 hc1
  have HP1 := hid (HC1.out.blk HP.out (fun h => hpS h.1))
  have HQ1 := hid (HE1.out.chg HC1.out (fun k hk h => HR.out k hk.1 h.1))
  have hnl : (e.nums.flatMap num).length = 42 := by rw [flatMap_num_len]; rfl
  have HNL := hid hnl
  clear hnl
  go_wp2_with fail
  refine wpB_start (fun wx : World => wx.cell? ⟨w.heap.size, 0, none⟩ = some (.pointer (some ⟨g, 0, none⟩))) (by kernel_rfl) ?_
  have hHeld : (fun wx : World => wx.cell? ⟨w.heap.size, 0, none⟩ = some (.pointer (some ⟨g, 0, none⟩))) _ := (by first | assumption | exact Chg.drew (Chg.refl _ _) | (show _ ∧ _; refine ⟨?_, ?_⟩ <;> assumption) | first | assumption | exact hb1)
  -- 0: t32 := load 73 t2 : 73
  refine wpB_take (i := 0) (v := ?_) (get_of_drop rfl) (by kernel_rfl) (by kernel_rfl) (by kernel_rfl) (by kernel_rfl) (fun _ _ _ h => h) (Or.inl ⟨by rfl, ?_⟩) hHeld ?_
  rotate_left
  · (intro w hSw; (try dsimp only at hSw); go_simp <;> with_reducible rfl)
  try simp only [Act.put, List.setIfInBounds_toArray, List.set_cons_zero, List.set_cons_succ]
  -- 1: t33 := move t1 : 118
  refine wpB_take (i := 1) (v := ?_) (get_of_drop rfl) (by kernel_rfl) (by kernel_rfl) (by kernel_rfl) (by kernel_rfl) (fun _ _ _ h => h) (Or.inl ⟨by rfl, ?_⟩) hHeld ?_
  rotate_left
  · (intro w hSw; (try dsimp only at hSw); go_simp <;> with_reducible rfl)
  try simp only [Act.put, List.setIfInBounds_toArray, List.set_cons_zero, List.set_cons_succ]
  -- 2: t34 := nilCheck t33 : 0
  refine wpB_take (i := 2) (v := ?_) (get_of_drop rfl) (by kernel_rfl) (by kernel_rfl) (by kernel_rfl) (by kernel_rfl) (fun _ _ _ h => h) (Or.inl ⟨by rfl, ?_⟩) hHeld ?_
  rotate_left
  · (intro w hSw; (try dsimp only at hSw); go_simp <;> with_reducible rfl)
  try simp only [Act.put, List.setIfInBounds_toArray, List.set_cons_zero, List.set_cons_succ]
  -- 3: t35 := fieldAddr 65 t34 3 : 0
  refine wpB_take (i := 3) (v := ?_) (get_of_drop rfl) (by kernel_rfl) (by kernel_rfl) (by kernel_rfl) (by kernel_rfl) (fun _ _ _ h => h) (Or.inl ⟨by rfl, ?_⟩) hHeld ?_
  rotate_left
  · (intro w hSw; (try dsimp only at hSw); go_simp <;> with_reducible rfl)
  try simp only [Act.put, List.setIfInBounds_toArray, List.set_cons_zero, List.set_cons_succ]
  -- 4: t36 := fieldAddr 63 t35 4 : 0
  refine wpB_take (i := 4) (v := ?_) (get_of_drop rfl) (by kernel_rfl) (by kernel_rfl) (by kernel_rfl) (by kernel_rfl) (fun _ _ _ h => h) (Or.inl ⟨by rfl, ?_⟩) hHeld ?_
  rotate_left
  · (intro w hSw; (try dsimp only at hSw); go_simp <;> with_reducible rfl)
  try simp only [Act.put, List.setIfInBounds_toArray, List.set_cons_zero, List.set_cons_succ]
  -- 5: t37 := load 73 t2 : 73
  refine wpB_take (i := 5) (v := ?_) (get_of_drop rfl) (by kernel_rfl) (by kernel_rfl) (by kernel_rfl) (by kernel_rfl) (fun _ _ _ h => h) (Or.inl ⟨by rfl, ?_⟩) hHeld ?_
  rotate_left
  · (intro w hSw; (try dsimp only at hSw); go_simp <;> with_reducible rfl)
  try simp only [Act.put, List.setIfInBounds_toArray, List.set_cons_zero, List.set_cons_succ]
  -- 6: t38 := makeFunc Fn.func(69) [t37] [] : 121
  refine wpB_take (i := 6) (v := ?_) (get_of_drop rfl) (by kernel_rfl) (by kernel_rfl) (by kernel_rfl) (by kernel_rfl) (fun _ _ _ h => h) (Or.inl ⟨by rfl, ?_⟩) hHeld ?_
  rotate_left
  · (intro w hSw; (try dsimp only at hSw); go_simp <;> with_reducible rfl)
  try simp only [Act.put, List.setIfInBounds_toArray, List.set_cons_zero, List.set_cons_succ]
  -- 7: t39 := CALL fn68(t32, t36, #i64:30, t38) : 0
  refine wpB_act (i := 7) (by kernel_rfl) (get_of_drop rfl) (fun K hK => ?_)
  go_simp
  have CC := hid (show Chg (fun _ => False) w1 w1.drew from (Chg.refl _ w1).drew)
  refine (rules_w (o := 7) (bx := w.heap.size) (H1.out.chg CC.out (fun _ _ h => h)) (CC.out.cell (by rw [cellAt HP1.out]; rfl) (fun h => h)) (HFAR.out _ _ (by have := HPL.out; have := BL.out; omega) (fun _ => hpS)) (HQ1.out.chg CC.out (fun _ _ h => h)) (fun k hk => HFAR.out _ _ (by have := hk.2; have := BL.out; omega) (fun _ => HR.out k hk.1)) (CC.out.cell HBX1.out (fun h => h)) (HFAR.out _ _ BL.out (fun h => absurd h (Nat.lt_irrefl _))) HOK.out.put (by rw [HN1.out]; exact HOK.out.putl) (by rw [List.length_append, HNL.out]; omega) 30).mono ?_
  rintro e' w2 ⟨rfl, h2⟩
  have HT2 := hid (HT.out.trans (WrTo.pre (S := fun k => (S k ∧ k < w.heap.size) ∨ wb.heap.size ≤ k) CC.out h2 (fun k hk => .inl hk.1)))
  have hb2 : w2.cell? ⟨w.heap.size, 0, none⟩ = some (.pointer (some ⟨g, 0, none⟩)) := (by obtain ⟨v2, _, hc⟩ := h2; exact hc.cell (CC.out.cell hb1 (fun h => h)) (HFAR.out _ _ BL.out (fun h => absurd h (Nat.lt_irrefl _))))
  clear h2
  refine hK.out _ _ ?_ (fun hHeld2 => ?_)
  · first | assumption | exact hb1
  clear hHeld hK K
  have hHeld := hHeld2
  clear hHeld2
  try simp only [Act.put, List.setIfInBounds_toArray, List.set_cons_zero, List.set_cons_succ]
  refine wpB_done (by kernel_rfl) ?_ _
  clear hHeld hb1 HBX1
  obtain ⟨v2, hv2, hc2⟩ := HT2.out
  have H2 := hid hv2.bound
  have HBX2 := hid hb2
  have HC2 := hid (show Chg (fun k => S k ∧ k < w.heap.size) w w2 from (CB.out.mono (fun _ h _ => h.elim)).trans hc2 (fun _ h _ => h))
  clear hv2 hc2
  have HP2 := hid (HC2.out.blk HP.out (fun h => hpS h.1))
  have HQ2 := hid (HE2.out.chg HC2.out (fun k hk h => HR.out k hk.1 h.1))
  have hrl := rules_len HOK.out.put e.put.length
  rw [List.take_length] at hrl
  have HRL := hid hrl
  clear hrl
  go_wp2_with fail
  refine wpB_start (fun wx : World => wx.cell? ⟨w.heap.size, 0, none⟩ = some (.pointer (some ⟨g, 0, none⟩))) (by kernel_rfl) ?_
  have hHeld : (fun wx : World => wx.cell? ⟨w.heap.size, 0, none⟩ = some (.pointer (some ⟨g, 0, none⟩))) _ := (by first | assumption | exact Chg.drew (Chg.refl _ _) | (show _ ∧ _; refine ⟨?_, ?_⟩ <;> assumption) | first | assumption | exact hb2)
  -- 0: t40 := load 73 t2 : 73
  refine wpB_take (i := 0) (v := ?_) (get_of_drop rfl) (by kernel_rfl) (by kernel_rfl) (by kernel_rfl) (by kernel_rfl) (fun _ _ _ h => h) (Or.inl ⟨by rfl, ?_⟩) hHeld ?_
  rotate_left
  · (intro w hSw; (try dsimp only at hSw); go_simp <;> with_reducible rfl)
  try simp only [Act.put, List.setIfInBounds_toArray, List.set_cons_zero, List.set_cons_succ]
  -- 1: t41 := move t1 : 118
  refine wpB_take (i := 1) (v := ?_) (get_of_drop rfl) (by kernel_rfl) (by kernel_rfl) (by kernel_rfl) (by kernel_rfl) (fun _ _ _ h => h) (Or.inl ⟨by rfl, ?_⟩) hHeld ?_
  rotate_left
  · (intro w hSw; (try dsimp only at hSw); go_simp <;> with_reducible rfl)
  try simp only [Act.put, List.setIfInBounds_toArray, List.set_cons_zero, List.set_cons_succ]
  -- 2: t42 := nilCheck t41 : 0
  refine wpB_take (i := 2) (v := ?_) (get_of_drop rfl) (by kernel_rfl) (by kernel_rfl) (by kernel_rfl) (by kernel_rfl) (fun _ _ _ h => h) (Or.inl ⟨by rfl, ?_⟩) hHeld ?_
  rotate_left
  · (intro w hSw; (try dsimp only at hSw); go_simp <;> with_reducible rfl)
  try simp only [Act.put, List.setIfInBounds_toArray, List.set_cons_zero, List.set_cons_succ]
  -- 3: t43 := fieldAddr 65 t42 3 : 0
  refine wpB_take (i := 3) (v := ?_) (get_of_drop rfl) (by kernel_rfl) (by kernel_rfl) (by kernel_rfl) (by kernel_rfl) (fun _ _ _ h => h) (Or.inl ⟨by rfl, ?_⟩) hHeld ?_
  rotate_left
  · (intro w hSw; (try dsimp only at hSw); go_simp <;> with_reducible rfl)
  try simp only [Act.put, List.setIfInBounds_toArray, List.set_cons_zero, List.set_cons_succ]
  -- 4: t44 := fieldAddr 63 t43 5 : 0
  refine wpB_take (i := 4) (v := ?_) (get_of_drop rfl) (by kernel_rfl) (by kernel_rfl) (by kernel_rfl) (by kernel_rfl) (fun _ _ _ h => h) (Or.inl ⟨by rfl, ?_⟩) hHeld ?_
  rotate_left
  · (intro w hSw; (try dsimp only at hSw); go_simp <;> with_reducible rfl)
  try simp only [Act.put, List.setIfInBounds_toArray, List.set_cons_zero, List.set_cons_succ]
  -- 5: t45 := makeFunc Fn.func(71) [] [t2] : 124
  refine wpB_take (i := 5) (v := ?_) (get_of_drop rfl) (by kernel_rfl) (by kernel_rfl) (by kernel_rfl) (by kernel_rfl) (fun _ _ _ h => h) (Or.inl ⟨by rfl, ?_⟩) hHeld ?_
  rotate_left
  · (intro w hSw; (try dsimp only at hSw); go_simp <;> with_reducible rfl)
  try simp only [Act.put, List.setIfInBounds_toArray, List.set_cons_zero, List.set_cons_succ]
  -- 6: t46 := CALL fn70(t40, t44, #i64:6, t45) : 0
  refine wpB_act (i := 6) (by kernel_rfl) (get_of_drop rfl) (fun K hK => ?_)
  go_simp
  have CC := hid (show Chg (fun _ => False) w2 w2.drew from (Chg.refl _ w2).drew)
  refine (nums_w (o := 8) (bx := w.heap.size) (H2.out.chg CC.out (fun _ _ h => h)) (CC.out.cell (by rw [cellAt HP2.out]; rfl) (fun h => h)) (HFAR.out _ _ (by have := HPL.out; have := BL.out; omega) (fun _ => hpS)) (HQ2.out.chg CC.out (fun _ _ h => h)) (fun k hk => HFAR.out _ _ (by have := hk.2; have := BL.out; omega) (fun _ => HR.out k hk.1)) (CC.out.cell HBX2.out (fun h => h)) (HFAR.out _ _ BL.out (fun h => absurd h (Nat.lt_irrefl _))) HOK.out.drop (by rw [HN2.out]; exact HOK.out.dropl) (by have := HRL.out; have := HNL.out; have := HOK.out.putl; simp only [List.length_append, num_len]; omega) 6).mono ?_
  rintro e' w3 ⟨rfl, h3⟩
  have HT3 := hid (HT2.out.trans (WrTo.pre (S := fun k => (S k ∧ k < w.heap.size) ∨ wb.heap.size ≤ k) CC.out h3 (fun k hk => .inl hk.1)))
  have hb3 : w3.cell? ⟨w.heap.size, 0, none⟩ = some (.pointer (some ⟨g, 0, none⟩)) := (by obtain ⟨v3, _, hc⟩ := h3; exact hc.cell (CC.out.cell hb2 (fun h => h)) (HFAR.out _ _ BL.out (fun h => absurd h (Nat.lt_irrefl _))))
  clear h3
  refine hK.out _ _ ?_ (fun hHeld2 => ?_)
  · first | assumption | exact hb2
  clear hHeld hK K
  have hHeld := hHeld2
  clear hHeld2
  try simp only [Act.put, List.setIfInBounds_toArray, List.set_cons_zero, List.set_cons_succ]
  refine wpB_done (by kernel_rfl) ?_ _
  clear hHeld hb2 hb3
  go_wp2_with fail
  go_end0
  refine ⟨rfl, ?_⟩
  have q := WrTo.pre (S := S) CB.out HT3.out (fun k hk => .inl hk.1)
  rw [HN1.out, HN2.out] at q
  rw [entryB_eq]
  simpa only [List.append_assoc] using q
end Go.Proofs.Ytcmfgijdelaelaa.Pa
