/- Texts of this claim, one behind the other: RepD, RepE, RepF, RepG, RepH, RepI, RepJ, RepK, RepL, RepN. -/
import Derived.Test.YtaldoajdhbndhaaMA

/- The replica's copied. -/

namespace Go.Proofs.Ytaldoajdhbndhaa.Pa

set_option linter.unusedVariables false

set_option linter.unusedSimpArgs false

open Go.RowKit Go.Proofs.Ytaldoajdhbndhaa.C

attribute [local go_sem] max2_int min2_int max_two min_two

/-- Entries of which the first k have their lists in new memory. -/
def Half (w0 : World) (R : Nat → Prop) (xs : List Entry) (n : Nat) (V : Value) (wr : World) (k : Nat) : Prop :=
  ∃ cells, wr.ownsRow 0 56 9 V n cells ∧ ∀ i x, xs[i]? = some x → entryK.K wr (fun j => ((i < k → w0.heap.size ≤ j) ∧ (¬ i < k → R j)) ∧ V.ownBlock ≠ some j ∧ j < wr.heap.size) x ((cells.drop (i * 9)).take 9)
theorem slice_set (l : List Value) (i k p : Nat) (u : Value) (h : i ≠ k) (hp : p < 9) : ((l.set (k * 9 + p) u).drop (i * 9)).take 9 = (l.drop (i * 9)).take 9 := by
  apply List.ext_getElem?
  intro j
  rw [List.getElem?_take, List.getElem?_take]
  split
  · rw [List.getElem?_drop, List.getElem?_drop, List.getElem?_set_ne (by omega)]
  · rfl
theorem slice_here (l : List Value) (k : Nat) (u1 u2 : Value) {r : Entry} {v1 v2 : Value} (h : (l.drop (k * 9)).take 9 = ints r.nums ++ [v1, v2]) : (((l.set (k * 9 + 7) u1).set (k * 9 + 8) u2).drop (k * 9)).take 9 = ints r.nums ++ [u1, u2] := by
  have hl : (ints r.nums).length = 7 := by simp [ints, Entry.nums]
  have hat : ∀ j, j < 9 → l[k * 9 + j]? = (ints r.nums ++ [v1, v2])[j]? := fun j hj => by rw [← h, List.getElem?_take, if_pos hj, List.getElem?_drop]
  have h7 := hat 7 (by omega)
  have h8 := hat 8 (by omega)
  rw [List.getElem?_append_right (by omega), hl] at h7 h8
  have b8 : k * 9 + 8 < l.length := by
    rcases Nat.lt_or_ge (k * 9 + 8) l.length with h | h
    · exact h
    · rw [List.getElem?_eq_none h] at h8; simp at h8
  apply List.ext_getElem?
  intro j
  rw [List.getElem?_take]
  split
  · rename_i hj
    rw [List.getElem?_drop]
    by_cases e8 : j = 8
    · subst e8
      rw [List.getElem?_set_self (by rw [List.length_set]; omega), List.getElem?_append_right (by omega), hl]; rfl
    · rw [List.getElem?_set_ne (by omega)]
      by_cases e7 : j = 7
      · subst e7
        rw [List.getElem?_set_self (by omega), List.getElem?_append_right (by omega), hl]; rfl
      · rw [List.getElem?_set_ne (by omega), hat j hj, List.getElem?_append_left (by omega), List.getElem?_append_left (by omega)]
  · rename_i hj
    rw [List.getElem?_eq_none (by rw [List.length_append, hl]; simp; omega)]
theorem Half.step {w0 wr wz : World} {R : Nat → Prop} {xs : List Entry} {n g c k : Nat} (h : Half w0 R xs n (.slice (some ⟨g, 0, none⟩) n c) wr k) {r : Entry} (hr : xs[k]? = some r) (hC : Chg (fun _ => False) wr wz) (h0 : w0.heap.size ≤ wr.heap.size)
    {A1 A2 : Option Addr} {m1 c1 m2 c2 : Nat} (h1 : Ty.At ruleK wz (fun j => wr.heap.size ≤ j ∧ j < wz.heap.size) A1 m1 c1 r.put) (h2 : Ty.At (Ty.int .i64) wz (fun j => wr.heap.size ≤ j ∧ j < wz.heap.size) A2 m2 c2 r.drop) :
    Half w0 R xs n (.slice (some ⟨g, 0, none⟩) n c) ((wz.setCell ⟨g, k * 9 + 3 + 4, none⟩ (.slice A1 m1 c1)).setCell ⟨g, k * 9 + 3 + 5, none⟩ (.slice A2 m2 c2)) (k + 1) := by
  obtain ⟨cells, q1, q2⟩ := h
  have hg : g < wr.heap.size := own_lt q1 g rfl
  have p1 := hC.own q1 (fun _ _ h => h)
  have p2 := (p1.stored (k * 9 + 3 + 4) (.slice A1 m1 c1)).1
  have p3 := (p2.stored (k * 9 + 3 + 5) (.slice A2 m2 c2)).1
  have hc : Chg (fun j => j = g) wz ((wz.setCell ⟨g, k * 9 + 3 + 4, none⟩ (.slice A1 m1 c1)).setCell ⟨g, k * 9 + 3 + 5, none⟩ (.slice A2 m2 c2)) := ((Chg.refl (fun j => j = g) wz).set (fun _ => rfl) _).set (fun _ => rfl) _
  refine ⟨_, p3, fun i x hx => ?_⟩
  have hK := q2 i x hx
  by_cases hi : i = k
  · subst hi
    rw [hr] at hx
    injection hx with hx
    subst hx
    obtain ⟨E1, n1, d1, E2, n2, d2, hcs, hrw⟩ := entry_open hK
    have := slice_here cells i (.slice A1 m1 c1) (.slice A2 m2 c2) hcs
    rw [show i * 9 + 3 + 4 = i * 9 + 7 from rfl, show i * 9 + 3 + 5 = i * 9 + 8 from rfl, this]
    refine entry_shut ⟨hrw.1, (h1.chg hc (fun j hj e => ?_)).mono (fun j hj => ?_), (h2.chg hc (fun j hj e => ?_)).mono (fun j hj => ?_)⟩
    · subst e; have := hj.1; omega
    · exact ⟨⟨fun _ => by have := hj.1; omega, fun h => absurd (Nat.lt_succ_self i) h⟩, fun e => by simp [Value.ownBlock] at e; have := hj.1; omega, Nat.lt_of_lt_of_le hj.2 hc.size⟩
    · subst e; have := hj.1; omega
    · exact ⟨⟨fun _ => by have := hj.1; omega, fun h => absurd (Nat.lt_succ_self i) h⟩, fun e => by simp [Value.ownBlock] at e; have := hj.1; omega, Nat.lt_of_lt_of_le hj.2 hc.size⟩
  · rw [show k * 9 + 3 + 4 = k * 9 + 7 from rfl, show k * 9 + 3 + 5 = k * 9 + 8 from rfl, slice_set _ i k 8 _ hi (by decide), slice_set _ i k 7 _ hi (by decide)]
    refine entryK.mono (entryK.chg (entryK.chg hK hC (fun _ _ h => h)) hc (fun j hj e => hj.2.1 (by rw [e]; rfl))) (fun j hj => ⟨⟨fun h => hj.1.1 (by omega), fun h => hj.1.2 (by omega)⟩, hj.2.1, Nat.lt_of_lt_of_le (Nat.lt_of_lt_of_le hj.2.2 hC.size) hc.size⟩)
def CopiedR (xs : List Entry) (n : Nat) (w : World) (e' : Ending) (w' : World) : Prop :=
  ∃ A' c', e' = .returned (.slice A' n c') ∧ Vec entryK 56 w' (fun k => w.heap.size ≤ k) (fun k => w.heap.size ≤ k) (.slice A' n c') xs ∧ Chg (fun _ => False) w w'
set_option maxHeartbeats 4000000 in
set_option maxRecDepth 100000 in
theorem rcopied_any {w : World} {R : Nat → Prop} {xs : List Entry} {A : Option Addr} {n c : Nat} (hl : Ty.At entryK w R A n c xs) (hn : n ≤ 1000000) (hput : Fits xs) :
    Calls Try.prog 47 #[.slice A n c] w (CopiedR xs n w) := by
  have HL := hid hl
  have L1 := hid hl.1
  have HPUT := hid hput
  have HN := hid hn
  have hn2 : (n : Int) ≤ 1000000 := by omega
  clear hl hput
  go_enter Try.func47, Try.ntmps47
  go_wp2_with fail
  refine (clone_ents HL.out HN.out).mono ?_
  rintro e w1 ⟨B, d, rfl, hv, h1⟩
  have C1 := hid h1
  have HH := hid (show Half w (fun k => R k ∧ k < w.heap.size) xs n (.slice B n d) w1 0 from (by
    obtain ⟨cells, q1, _, q3⟩ := hv
    rw [← L1.out] at q1
    exact ⟨cells, q1, fun i x hx => entryK.mono (q3.2 i x hx) (fun k hk => ⟨⟨fun h => absurd h (Nat.not_lt_zero _), fun _ => hk.1⟩, hk.2⟩)⟩))
  have HS := hid (show ∀ k, (Value.slice B n d).ownBlock = some k → w.heap.size ≤ k from hv.inS)
  clear hv h1 hn
  go_wp2_with fail
  go_loopw [9] (fun i wr => ∃ k : Nat, k ≤ n ∧ i = .int .i64 k ∧ Half w (fun k => R k ∧ k < w.heap.size) xs n (.slice B n d) wr k ∧ Chg (fun _ => False) w wr) (fun i _ => n - (intOf i).toNat)
  case atStart => exact ⟨0, Nat.zero_le _, rfl, HH.out, C1.out⟩
  case round =>
    obtain ⟨k, hk, rfl, hh, hC⟩ := hrel
    have HK := hid hh
    have HC := hid hC
    clear hh hC
    by_cases hlt : k < n
    · have hlt2 : (k : Int) < (n : Int) := by omega
      obtain ⟨r, hr⟩ : ∃ r, xs[k]? = some r := ⟨_, List.getElem?_eq_getElem (by have := L1.out; omega)⟩
      have HR := hid hr
      have HFR := hid (HPUT.out r (List.mem_of_getElem? hr))
      obtain ⟨cells, q1, q2⟩ := HK.out
      obtain ⟨g, hB, hg⟩ := own_form q1 (by omega)
      subst hB
      obtain ⟨E1, m1, d1, E2, m2, d2, hcs, hrw⟩ := entry_open (q2 k r hr)
      have HRW := hid hrw
      obtain ⟨cur, hcur⟩ := own_type q1 g rfl
      have HB := hid hcur
      have hl7 : cells[k * 9 + 7]? = some (.slice E1 m1 d1) := by
        have e1 : ((cells.drop (k * 9)).take 9)[7]? = some (.slice E1 m1 d1) := by rw [hcs]; rfl
        rwa [List.getElem?_take, if_pos (by decide), List.getElem?_drop] at e1
      have hl8 : cells[k * 9 + 8]? = some (.slice E2 m2 d2) := by
        have e1 : ((cells.drop (k * 9)).take 9)[8]? = some (.slice E2 m2 d2) := by rw [hcs]; rfl
        rwa [List.getElem?_take, if_pos (by decide), List.getElem?_drop] at e1
      have b8 : k * 9 + 8 < n * 9 := by have : (k + 1) * 9 ≤ n * 9 := Nat.mul_le_mul_right _ hlt; omega
      have c7 : wr.cell? ⟨g, k * 9 + 3 + 4, none⟩ = some (.slice E1 m1 d1) := by rw [show k * 9 + 3 + 4 = k * 9 + 7 from rfl, q1.cellAt _ (by omega)]; exact hl7
      have c8 : wr.cell? ⟨g, k * 9 + 3 + 5, none⟩ = some (.slice E2 m2 d2) := by rw [show k * 9 + 3 + 5 = k * 9 + 8 from rfl, q1.cellAt _ (by omega)]; exact hl8
      have hm1 : m1 ≤ 1000000 := by have h1 := hrw.2.1.1; have h2 := HFR.out.1; omega
      have hm2 : m2 ≤ 1000000 := by have h1 := hrw.2.2.1; have h2 := HFR.out.2; omega
      have U7 := hid (show ∀ wx, Chg (fun _ => False) wr wx → wx.cell? ⟨g, k * 9 + 3 + 4, none⟩ = some (.slice E1 m1 d1) from fun wx hx => hx.cell c7 (fun h => h))
      have U8 := hid (show ∀ wx, Chg (fun _ => False) wr wx → wx.cell? ⟨g, k * 9 + 3 + 5, none⟩ = some (.slice E2 m2 d2) from fun wx hx => hx.cell c8 (fun h => h))
      clear c7 c8 hl7 hl8 b8 q1 q2 hcs hrw hcur hr
      go_wp2_with fail
      have c7 := U7.out _ ((Chg.refl (fun _ => False) wr).drew)
      have c8 := U8.out _ ((Chg.refl (fun _ => False) wr).drew)
      have HD0 := hid ((Chg.refl (fun _ => False) wr).drew)
      refine wpB_start (fun wx : World => Chg (fun j => j = g) wr wx) (by kernel_rfl) ?_
      have hHeld : (fun wx : World => Chg (fun j => j = g) wr wx) _ := (Chg.refl _ wr).drew
      -- 0: t12 := move t3 : 24
      refine wpB_take (i := 0) (v := ?_) (get_of_drop rfl) (by kernel_rfl) (by kernel_rfl) (by kernel_rfl) (by kernel_rfl) (fun _ _ _ h => h) (Or.inl ⟨by rfl, ?_⟩) hHeld ?_
      rotate_left
      · (intro w hSw; (try dsimp only at hSw); go_simp <;> with_reducible rfl)
      try simp only [Act.put, List.setIfInBounds_toArray, List.set_cons_zero, List.set_cons_succ]
      -- 1: t13 := move t4 : 3
      refine wpB_take (i := 1) (v := ?_) (get_of_drop rfl) (by kernel_rfl) (by kernel_rfl) (by kernel_rfl) (by kernel_rfl) (fun _ _ _ h => h) (Or.inl ⟨by rfl, ?_⟩) hHeld ?_
      rotate_left
      · (intro w hSw; (try dsimp only at hSw); go_simp <;> with_reducible rfl)
      try simp only [Act.put, List.setIfInBounds_toArray, List.set_cons_zero, List.set_cons_succ]
      -- 2: t14 := move t3 : 24
      refine wpB_take (i := 2) (v := ?_) (get_of_drop rfl) (by kernel_rfl) (by kernel_rfl) (by kernel_rfl) (by kernel_rfl) (fun _ _ _ h => h) (Or.inl ⟨by rfl, ?_⟩) hHeld ?_
      rotate_left
      · (intro w hSw; (try dsimp only at hSw); go_simp <;> with_reducible rfl)
      try simp only [Act.put, List.setIfInBounds_toArray, List.set_cons_zero, List.set_cons_succ]
      -- 3: t15 := move t4 : 3
      refine wpB_take (i := 3) (v := ?_) (get_of_drop rfl) (by kernel_rfl) (by kernel_rfl) (by kernel_rfl) (by kernel_rfl) (fun _ _ _ h => h) (Or.inl ⟨by rfl, ?_⟩) hHeld ?_
      rotate_left
      · (intro w hSw; (try dsimp only at hSw); go_simp <;> with_reducible rfl)
      try simp only [Act.put, List.setIfInBounds_toArray, List.set_cons_zero, List.set_cons_succ]
      -- 4: t16 := move t3 : 24
      refine wpB_take (i := 4) (v := ?_) (get_of_drop rfl) (by kernel_rfl) (by kernel_rfl) (by kernel_rfl) (by kernel_rfl) (fun _ _ _ h => h) (Or.inl ⟨by rfl, ?_⟩) hHeld ?_
      rotate_left
      · (intro w hSw; (try dsimp only at hSw); go_simp <;> with_reducible rfl)
      try simp only [Act.put, List.setIfInBounds_toArray, List.set_cons_zero, List.set_cons_succ]
      -- 5: t17 := move t4 : 3
      refine wpB_take (i := 5) (v := ?_) (get_of_drop rfl) (by kernel_rfl) (by kernel_rfl) (by kernel_rfl) (by kernel_rfl) (fun _ _ _ h => h) (Or.inl ⟨by rfl, ?_⟩) hHeld ?_
      rotate_left
      · (intro w hSw; (try dsimp only at hSw); go_simp <;> with_reducible rfl)
      try simp only [Act.put, List.setIfInBounds_toArray, List.set_cons_zero, List.set_cons_succ]
      -- 6: t18 := indexAddr 24 t16 t17 : 0
      refine wpB_take (i := 6) (v := ?_) (get_of_drop rfl) (by kernel_rfl) (by kernel_rfl) (by kernel_rfl) (by kernel_rfl) (fun _ _ _ h => h) (Or.inl ⟨by rfl, ?_⟩) hHeld ?_
      rotate_left
      · (intro w hSw; (try dsimp only at hSw); go_simp <;> with_reducible rfl)
      try simp only [Act.put, List.setIfInBounds_toArray, List.set_cons_zero, List.set_cons_succ]
      -- 7: t19 := fieldAddr 56 t18 3 : 0
      refine wpB_take (i := 7) (v := ?_) (get_of_drop rfl) (by kernel_rfl) (by kernel_rfl) (by kernel_rfl) (by kernel_rfl) (fun _ _ _ h => h) (Or.inl ⟨by rfl, ?_⟩) hHeld ?_
      rotate_left
      · (intro w hSw; (try dsimp only at hSw); go_simp <;> with_reducible rfl)
      try simp only [Act.put, List.setIfInBounds_toArray, List.set_cons_zero, List.set_cons_succ]
      -- 8: t20 := fieldAddr 54 t19 4 : 0
      refine wpB_take (i := 8) (v := ?_) (get_of_drop rfl) (by kernel_rfl) (by kernel_rfl) (by kernel_rfl) (by kernel_rfl) (fun _ _ _ h => h) (Or.inl ⟨by rfl, ?_⟩) hHeld ?_
      rotate_left
      · (intro w hSw; (try dsimp only at hSw); go_simp <;> with_reducible rfl)
      try simp only [Act.put, List.setIfInBounds_toArray, List.set_cons_zero, List.set_cons_succ]
      -- 11: t23 := move t3 : 24
      refine wpB_take (i := 11) (v := ?_) (get_of_drop rfl) (by kernel_rfl) (by kernel_rfl) (by kernel_rfl) (by kernel_rfl) (fun _ _ _ h => h) (Or.inl ⟨by rfl, ?_⟩) hHeld ?_
      rotate_left
      · (intro w hSw; (try dsimp only at hSw); go_simp <;> with_reducible rfl)
      try simp only [Act.put, List.setIfInBounds_toArray, List.set_cons_zero, List.set_cons_succ]
      -- 12: t24 := move t4 : 3
      refine wpB_take (i := 12) (v := ?_) (get_of_drop rfl) (by kernel_rfl) (by kernel_rfl) (by kernel_rfl) (by kernel_rfl) (fun _ _ _ h => h) (Or.inl ⟨by rfl, ?_⟩) hHeld ?_
      rotate_left
      · (intro w hSw; (try dsimp only at hSw); go_simp <;> with_reducible rfl)
      try simp only [Act.put, List.setIfInBounds_toArray, List.set_cons_zero, List.set_cons_succ]
      -- 13: t25 := indexAddr 24 t23 t24 : 0
      refine wpB_take (i := 13) (v := ?_) (get_of_drop rfl) (by kernel_rfl) (by kernel_rfl) (by kernel_rfl) (by kernel_rfl) (fun _ _ _ h => h) (Or.inl ⟨by rfl, ?_⟩) hHeld ?_
      rotate_left
      · (intro w hSw; (try dsimp only at hSw); go_simp <;> with_reducible rfl)
      try simp only [Act.put, List.setIfInBounds_toArray, List.set_cons_zero, List.set_cons_succ]
      -- 14: t26 := fieldAddr 56 t25 3 : 0
      refine wpB_take (i := 14) (v := ?_) (get_of_drop rfl) (by kernel_rfl) (by kernel_rfl) (by kernel_rfl) (by kernel_rfl) (fun _ _ _ h => h) (Or.inl ⟨by rfl, ?_⟩) hHeld ?_
      rotate_left
      · (intro w hSw; (try dsimp only at hSw); go_simp <;> with_reducible rfl)
      try simp only [Act.put, List.setIfInBounds_toArray, List.set_cons_zero, List.set_cons_succ]
      -- 15: t27 := fieldAddr 54 t26 5 : 0
      refine wpB_take (i := 15) (v := ?_) (get_of_drop rfl) (by kernel_rfl) (by kernel_rfl) (by kernel_rfl) (by kernel_rfl) (fun _ _ _ h => h) (Or.inl ⟨by rfl, ?_⟩) hHeld ?_
      rotate_left
      · (intro w hSw; (try dsimp only at hSw); go_simp <;> with_reducible rfl)
      try simp only [Act.put, List.setIfInBounds_toArray, List.set_cons_zero, List.set_cons_succ]
      refine wpB_two (i := 9) (j := 16) (by kernel_rfl) (get_of_drop rfl) (get_of_drop rfl) (fun K hK => ?_) (fun K hK => ?_)
      · -- 9: t21 := load 51 t20 : 51
        go_simp
        refine hK.out _ _ ?_ (fun hHeld2 => ?_)
        · (first | assumption | (with_reducible exact HKZ.out) | (with_reducible exact HK2.out) | (exact HK2.out.set (fun _ => rfl) _) | (exact (HK2.out.set (fun _ => rfl) _).set (fun _ => rfl) _))
        clear hHeld hK K
        have hHeld := hHeld2
        clear hHeld2
        try simp only [Act.put, List.setIfInBounds_toArray, List.set_cons_zero, List.set_cons_succ]
        refine wpB_two (i := 10) (j := 16) (by kernel_rfl) (get_of_drop rfl) (get_of_drop rfl) (fun K hK => ?_) (fun K hK => ?_)
        · -- 10: t22 := CALL fn85(t21) : 51
          go_simp
          refine (clone_rules (HRW.out.2.1.chg HD0.out (fun _ _ h => h)) hm1).mono ?_
          rintro e' wy ⟨A1, c1, rfl, hat, hcy⟩
          have HP := hid (flat_at flat_rule hat)
          have HZ := hid (show Chg (fun _ => False) wr wy from HD0.out.trans hcy (fun _ h _ => h))
          have HKZ := hid (show Chg (fun j => j = g) wr wy from HZ.out.mono (fun _ h _ => h.elim))
          have c8y := U8.out _ HZ.out
          clear hcy hat
          refine hK.out _ _ ?_ (fun hHeld2 => ?_)
          · (first | assumption | (with_reducible exact HKZ.out) | (with_reducible exact HK2.out) | (exact HK2.out.set (fun _ => rfl) _) | (exact (HK2.out.set (fun _ => rfl) _).set (fun _ => rfl) _))
          clear hHeld hK K
          have hHeld := hHeld2
          clear hHeld2
          try simp only [Act.put, List.setIfInBounds_toArray, List.set_cons_zero, List.set_cons_succ]
          -- 16: t28 := load 52 t27 : 52
          refine wpB_act (i := 16) (by kernel_rfl) (get_of_drop rfl) (fun K hK => ?_)
          go_simp
          refine hK.out _ _ ?_ (fun hHeld2 => ?_)
          · (first | assumption | (with_reducible exact HKZ.out) | (with_reducible exact HK2.out) | (exact HK2.out.set (fun _ => rfl) _) | (exact (HK2.out.set (fun _ => rfl) _).set (fun _ => rfl) _))
          clear hHeld hK K
          have hHeld := hHeld2
          clear hHeld2
          try simp only [Act.put, List.setIfInBounds_toArray, List.set_cons_zero, List.set_cons_succ]
          -- 17: t29 := CALL fn86(t28) : 52
          refine wpB_act (i := 17) (by kernel_rfl) (get_of_drop rfl) (fun K hK => ?_)
          go_simp
          refine (clone_nums (HRW.out.2.2.chg HZ.out (fun _ _ h => h)) hm2).mono ?_
          rintro e' wz ⟨A2, c2, rfl, hat, hcy⟩
          have HD := hid (show Ty.At (Ty.int .i64) wz (fun j => wr.heap.size ≤ j ∧ j < wz.heap.size) A2 m2 c2 r.drop from (flat_at (flat_int _) hat).mono (fun j hj => ⟨Nat.le_trans HZ.out.size hj.1, hj.2⟩))
          have HPZ := hid (show Ty.At ruleK wz (fun j => wr.heap.size ≤ j ∧ j < wz.heap.size) A1 m1 c1 r.put from (HP.out.chg hcy (fun _ _ h => h)).mono (fun j hj => ⟨hj.1, Nat.lt_of_lt_of_le hj.2 hcy.size⟩))
          have HZ2 := hid (show Chg (fun _ => False) wr wz from HZ.out.trans hcy (fun _ h _ => h))
          have HK2 := hid (show Chg (fun j => j = g) wr wz from HZ2.out.mono (fun _ h _ => h.elim))
          have HBz := hid (HZ2.out.blk HB.out (fun h => h))
          have z7 : wz.cell? ⟨g, k * 9 + 3 + 4, none⟩ = some (.slice E1 m1 d1) := U7.out _ HZ2.out
          have z8 : wz.cell? ⟨g, k * 9 + 3 + 5, none⟩ = some (.slice E2 m2 d2) := U8.out _ HZ2.out
          have f7 : wz.frozen? ⟨g, k * 9 + 3 + 4, none⟩ = false := freeAt HBz.out _
          have f8 : wz.frozen? ⟨g, k * 9 + 3 + 5, none⟩ = false := freeAt HBz.out _
          clear hcy hat c7 c8 c8y
          refine hK.out _ _ ?_ (fun hHeld2 => ?_)
          · (first | assumption | (with_reducible exact HKZ.out) | (with_reducible exact HK2.out) | (exact HK2.out.set (fun _ => rfl) _) | (exact (HK2.out.set (fun _ => rfl) _).set (fun _ => rfl) _))
          clear hHeld hK K
          have hHeld := hHeld2
          clear hHeld2
          try simp only [Act.put, List.setIfInBounds_toArray, List.set_cons_zero, List.set_cons_succ]
          -- 18: t30 := indexAddr 24 t12 t13 : 0
          refine wpB_take (i := 18) (v := ?_) (get_of_drop rfl) (by kernel_rfl) (by kernel_rfl) (by kernel_rfl) (by kernel_rfl) (fun _ _ _ h => h) (Or.inl ⟨by rfl, ?_⟩) hHeld ?_
          rotate_left
          · (intro w hSw; (try dsimp only at hSw); go_simp <;> with_reducible rfl)
          try simp only [Act.put, List.setIfInBounds_toArray, List.set_cons_zero, List.set_cons_succ]
          -- 19: t31 := fieldAddr 56 t30 3 : 0
          refine wpB_take (i := 19) (v := ?_) (get_of_drop rfl) (by kernel_rfl) (by kernel_rfl) (by kernel_rfl) (by kernel_rfl) (fun _ _ _ h => h) (Or.inl ⟨by rfl, ?_⟩) hHeld ?_
          rotate_left
          · (intro w hSw; (try dsimp only at hSw); go_simp <;> with_reducible rfl)
          try simp only [Act.put, List.setIfInBounds_toArray, List.set_cons_zero, List.set_cons_succ]
          -- 20: t32 := fieldAddr 54 t31 4 : 0
          refine wpB_take (i := 20) (v := ?_) (get_of_drop rfl) (by kernel_rfl) (by kernel_rfl) (by kernel_rfl) (by kernel_rfl) (fun _ _ _ h => h) (Or.inl ⟨by rfl, ?_⟩) hHeld ?_
          rotate_left
          · (intro w hSw; (try dsimp only at hSw); go_simp <;> with_reducible rfl)
          try simp only [Act.put, List.setIfInBounds_toArray, List.set_cons_zero, List.set_cons_succ]
          -- 21: t- := store 51 t32 t22 : 0
          refine wpB_act (i := 21) (by kernel_rfl) (get_of_drop rfl) (fun K hK => ?_)
          go_simp
          refine hK.out _ _ ?_ (fun hHeld2 => ?_)
          · (first | assumption | (with_reducible exact HKZ.out) | (with_reducible exact HK2.out) | (exact HK2.out.set (fun _ => rfl) _) | (exact (HK2.out.set (fun _ => rfl) _).set (fun _ => rfl) _))
          clear hHeld hK K
          have hHeld := hHeld2
          clear hHeld2
          try simp only [Act.put, List.setIfInBounds_toArray, List.set_cons_zero, List.set_cons_succ]
          -- 22: t33 := indexAddr 24 t14 t15 : 0
          refine wpB_take (i := 22) (v := ?_) (get_of_drop rfl) (by kernel_rfl) (by kernel_rfl) (by kernel_rfl) (by kernel_rfl) (fun _ _ _ h => h) (Or.inl ⟨by rfl, ?_⟩) hHeld ?_
          rotate_left
          · (intro w hSw; (try dsimp only at hSw); go_simp <;> with_reducible rfl)
          try simp only [Act.put, List.setIfInBounds_toArray, List.set_cons_zero, List.set_cons_succ]
          -- 23: t34 := fieldAddr 56 t33 3 : 0
          refine wpB_take (i := 23) (v := ?_) (get_of_drop rfl) (by kernel_rfl) (by kernel_rfl) (by kernel_rfl) (by kernel_rfl) (fun _ _ _ h => h) (Or.inl ⟨by rfl, ?_⟩) hHeld ?_
          rotate_left
          · (intro w hSw; (try dsimp only at hSw); go_simp <;> with_reducible rfl)
          try simp only [Act.put, List.setIfInBounds_toArray, List.set_cons_zero, List.set_cons_succ]
          -- 24: t35 := fieldAddr 54 t34 5 : 0
          refine wpB_take (i := 24) (v := ?_) (get_of_drop rfl) (by kernel_rfl) (by kernel_rfl) (by kernel_rfl) (by kernel_rfl) (fun _ _ _ h => h) (Or.inl ⟨by rfl, ?_⟩) hHeld ?_
          rotate_left
          · (intro w hSw; (try dsimp only at hSw); go_simp <;> with_reducible rfl)
          try simp only [Act.put, List.setIfInBounds_toArray, List.set_cons_zero, List.set_cons_succ]
          -- 25: t- := store 52 t35 t29 : 0 (BARRIER)
          refine wpB_bar (i := 25) (by kernel_rfl) (get_of_drop rfl) (by kernel_rfl) (fun K hK => ?_)
          go_simp
          refine hK.out _ _ (fun _ : World => True) ?_
          clear hHeld hK K
          have hHeld := trivial
          try simp only [Act.put, List.setIfInBounds_toArray, List.set_cons_zero, List.set_cons_succ]
          refine wpB_done (by kernel_rfl) ?_ _
          have HS2 := hid (HK.out.step HR.out HZ2.out HC.out.size HPZ.out HD.out)
          have HC2 := hid (show Chg (fun _ => False) w ((wz.setCell ⟨g, k * 9 + 3 + 4, none⟩ (.slice A1 m1 c1)).setCell ⟨g, k * 9 + 3 + 5, none⟩ (.slice A2 m2 c2)) from HC.out.trans ((HK2.out.set (p := ⟨g, k * 9 + 3 + 4, none⟩) (fun _ => rfl) (.slice A1 m1 c1)).set (p := ⟨g, k * 9 + 3 + 5, none⟩) (fun _ => rfl) (.slice A2 m2 c2)) (fun j hj hl => by have := HS.out g rfl; omega))
          clear z7 z8 f7 f8
          go_wp2_with fail
          go_roundw
          case measure => simp [intOf]; omega
          case rel => exact ⟨k + 1, hlt, by go_num, HS2.out, HC2.out⟩
        · -- 16: t28 := load 52 t27 : 52
          go_simp
          refine hK.out _ _ ?_ (fun hHeld2 => ?_)
          · (first | assumption | (with_reducible exact HKZ.out) | (with_reducible exact HK2.out) | (exact HK2.out.set (fun _ => rfl) _) | (exact (HK2.out.set (fun _ => rfl) _).set (fun _ => rfl) _))
          clear hHeld hK K
          have hHeld := hHeld2
          clear hHeld2
          try simp only [Act.put, List.setIfInBounds_toArray, List.set_cons_zero, List.set_cons_succ]
          -- 10: t22 := CALL fn85(t21) : 51
          refine wpB_act (i := 10) (by kernel_rfl) (get_of_drop rfl) (fun K hK => ?_)
          go_simp
          refine (clone_rules (HRW.out.2.1.chg HD0.out (fun _ _ h => h)) hm1).mono ?_
          rintro e' wy ⟨A1, c1, rfl, hat, hcy⟩
          have HP := hid (flat_at flat_rule hat)
          have HZ := hid (show Chg (fun _ => False) wr wy from HD0.out.trans hcy (fun _ h _ => h))
          have HKZ := hid (show Chg (fun j => j = g) wr wy from HZ.out.mono (fun _ h _ => h.elim))
          have c8y := U8.out _ HZ.out
          clear hcy hat
          refine hK.out _ _ ?_ (fun hHeld2 => ?_)
          · (first | assumption | (with_reducible exact HKZ.out) | (with_reducible exact HK2.out) | (exact HK2.out.set (fun _ => rfl) _) | (exact (HK2.out.set (fun _ => rfl) _).set (fun _ => rfl) _))
          clear hHeld hK K
          have hHeld := hHeld2
          clear hHeld2
          try simp only [Act.put, List.setIfInBounds_toArray, List.set_cons_zero, List.set_cons_succ]
          -- 17: t29 := CALL fn86(t28) : 52
          refine wpB_act (i := 17) (by kernel_rfl) (get_of_drop rfl) (fun K hK => ?_)
          go_simp
          refine (clone_nums (HRW.out.2.2.chg HZ.out (fun _ _ h => h)) hm2).mono ?_
          rintro e' wz ⟨A2, c2, rfl, hat, hcy⟩
          have HD := hid (show Ty.At (Ty.int .i64) wz (fun j => wr.heap.size ≤ j ∧ j < wz.heap.size) A2 m2 c2 r.drop from (flat_at (flat_int _) hat).mono (fun j hj => ⟨Nat.le_trans HZ.out.size hj.1, hj.2⟩))
          have HPZ := hid (show Ty.At ruleK wz (fun j => wr.heap.size ≤ j ∧ j < wz.heap.size) A1 m1 c1 r.put from (HP.out.chg hcy (fun _ _ h => h)).mono (fun j hj => ⟨hj.1, Nat.lt_of_lt_of_le hj.2 hcy.size⟩))
          have HZ2 := hid (show Chg (fun _ => False) wr wz from HZ.out.trans hcy (fun _ h _ => h))
          have HK2 := hid (show Chg (fun j => j = g) wr wz from HZ2.out.mono (fun _ h _ => h.elim))
          have HBz := hid (HZ2.out.blk HB.out (fun h => h))
          have z7 : wz.cell? ⟨g, k * 9 + 3 + 4, none⟩ = some (.slice E1 m1 d1) := U7.out _ HZ2.out
          have z8 : wz.cell? ⟨g, k * 9 + 3 + 5, none⟩ = some (.slice E2 m2 d2) := U8.out _ HZ2.out
          have f7 : wz.frozen? ⟨g, k * 9 + 3 + 4, none⟩ = false := freeAt HBz.out _
          have f8 : wz.frozen? ⟨g, k * 9 + 3 + 5, none⟩ = false := freeAt HBz.out _
          clear hcy hat c7 c8 c8y
          refine hK.out _ _ ?_ (fun hHeld2 => ?_)
          · (first | assumption | (with_reducible exact HKZ.out) | (with_reducible exact HK2.out) | (exact HK2.out.set (fun _ => rfl) _) | (exact (HK2.out.set (fun _ => rfl) _).set (fun _ => rfl) _))
          clear hHeld hK K
          have hHeld := hHeld2
          clear hHeld2
          try simp only [Act.put, List.setIfInBounds_toArray, List.set_cons_zero, List.set_cons_succ]
          -- 18: t30 := indexAddr 24 t12 t13 : 0
          refine wpB_take (i := 18) (v := ?_) (get_of_drop rfl) (by kernel_rfl) (by kernel_rfl) (by kernel_rfl) (by kernel_rfl) (fun _ _ _ h => h) (Or.inl ⟨by rfl, ?_⟩) hHeld ?_
          rotate_left
          · (intro w hSw; (try dsimp only at hSw); go_simp <;> with_reducible rfl)
          try simp only [Act.put, List.setIfInBounds_toArray, List.set_cons_zero, List.set_cons_succ]
          -- 19: t31 := fieldAddr 56 t30 3 : 0
          refine wpB_take (i := 19) (v := ?_) (get_of_drop rfl) (by kernel_rfl) (by kernel_rfl) (by kernel_rfl) (by kernel_rfl) (fun _ _ _ h => h) (Or.inl ⟨by rfl, ?_⟩) hHeld ?_
          rotate_left
          · (intro w hSw; (try dsimp only at hSw); go_simp <;> with_reducible rfl)
          try simp only [Act.put, List.setIfInBounds_toArray, List.set_cons_zero, List.set_cons_succ]
          -- 20: t32 := fieldAddr 54 t31 4 : 0
          refine wpB_take (i := 20) (v := ?_) (get_of_drop rfl) (by kernel_rfl) (by kernel_rfl) (by kernel_rfl) (by kernel_rfl) (fun _ _ _ h => h) (Or.inl ⟨by rfl, ?_⟩) hHeld ?_
          rotate_left
          · (intro w hSw; (try dsimp only at hSw); go_simp <;> with_reducible rfl)
          try simp only [Act.put, List.setIfInBounds_toArray, List.set_cons_zero, List.set_cons_succ]
          -- 21: t- := store 51 t32 t22 : 0
          refine wpB_act (i := 21) (by kernel_rfl) (get_of_drop rfl) (fun K hK => ?_)
          go_simp
          refine hK.out _ _ ?_ (fun hHeld2 => ?_)
          · (first | assumption | (with_reducible exact HKZ.out) | (with_reducible exact HK2.out) | (exact HK2.out.set (fun _ => rfl) _) | (exact (HK2.out.set (fun _ => rfl) _).set (fun _ => rfl) _))
          clear hHeld hK K
          have hHeld := hHeld2
          clear hHeld2
          try simp only [Act.put, List.setIfInBounds_toArray, List.set_cons_zero, List.set_cons_succ]
          -- 22: t33 := indexAddr 24 t14 t15 : 0
          refine wpB_take (i := 22) (v := ?_) (get_of_drop rfl) (by kernel_rfl) (by kernel_rfl) (by kernel_rfl) (by kernel_rfl) (fun _ _ _ h => h) (Or.inl ⟨by rfl, ?_⟩) hHeld ?_
          rotate_left
          · (intro w hSw; (try dsimp only at hSw); go_simp <;> with_reducible rfl)
          try simp only [Act.put, List.setIfInBounds_toArray, List.set_cons_zero, List.set_cons_succ]
          -- 23: t34 := fieldAddr 56 t33 3 : 0
          refine wpB_take (i := 23) (v := ?_) (get_of_drop rfl) (by kernel_rfl) (by kernel_rfl) (by kernel_rfl) (by kernel_rfl) (fun _ _ _ h => h) (Or.inl ⟨by rfl, ?_⟩) hHeld ?_
          rotate_left
          · (intro w hSw; (try dsimp only at hSw); go_simp <;> with_reducible rfl)
          try simp only [Act.put, List.setIfInBounds_toArray, List.set_cons_zero, List.set_cons_succ]
          -- 24: t35 := fieldAddr 54 t34 5 : 0
          refine wpB_take (i := 24) (v := ?_) (get_of_drop rfl) (by kernel_rfl) (by kernel_rfl) (by kernel_rfl) (by kernel_rfl) (fun _ _ _ h => h) (Or.inl ⟨by rfl, ?_⟩) hHeld ?_
          rotate_left
          · (intro w hSw; (try dsimp only at hSw); go_simp <;> with_reducible rfl)
          try simp only [Act.put, List.setIfInBounds_toArray, List.set_cons_zero, List.set_cons_succ]
          -- 25: t- := store 52 t35 t29 : 0 (BARRIER)
          refine wpB_bar (i := 25) (by kernel_rfl) (get_of_drop rfl) (by kernel_rfl) (fun K hK => ?_)
          go_simp
          refine hK.out _ _ (fun _ : World => True) ?_
          clear hHeld hK K
          have hHeld := trivial
          try simp only [Act.put, List.setIfInBounds_toArray, List.set_cons_zero, List.set_cons_succ]
          refine wpB_done (by kernel_rfl) ?_ _
          have HS2 := hid (HK.out.step HR.out HZ2.out HC.out.size HPZ.out HD.out)
          have HC2 := hid (show Chg (fun _ => False) w ((wz.setCell ⟨g, k * 9 + 3 + 4, none⟩ (.slice A1 m1 c1)).setCell ⟨g, k * 9 + 3 + 5, none⟩ (.slice A2 m2 c2)) from HC.out.trans ((HK2.out.set (p := ⟨g, k * 9 + 3 + 4, none⟩) (fun _ => rfl) (.slice A1 m1 c1)).set (p := ⟨g, k * 9 + 3 + 5, none⟩) (fun _ => rfl) (.slice A2 m2 c2)) (fun j hj hl => by have := HS.out g rfl; omega))
          clear z7 z8 f7 f8
          go_wp2_with fail
          go_roundw
          case measure => simp [intOf]; omega
          case rel => exact ⟨k + 1, hlt, by go_num, HS2.out, HC2.out⟩
      · -- 16: t28 := load 52 t27 : 52
        go_simp
        refine hK.out _ _ ?_ (fun hHeld2 => ?_)
        · (first | assumption | (with_reducible exact HKZ.out) | (with_reducible exact HK2.out) | (exact HK2.out.set (fun _ => rfl) _) | (exact (HK2.out.set (fun _ => rfl) _).set (fun _ => rfl) _))
        clear hHeld hK K
        have hHeld := hHeld2
        clear hHeld2
        try simp only [Act.put, List.setIfInBounds_toArray, List.set_cons_zero, List.set_cons_succ]
        -- 9: t21 := load 51 t20 : 51
        refine wpB_act (i := 9) (by kernel_rfl) (get_of_drop rfl) (fun K hK => ?_)
        go_simp
        refine hK.out _ _ ?_ (fun hHeld2 => ?_)
        · (first | assumption | (with_reducible exact HKZ.out) | (with_reducible exact HK2.out) | (exact HK2.out.set (fun _ => rfl) _) | (exact (HK2.out.set (fun _ => rfl) _).set (fun _ => rfl) _))
        clear hHeld hK K
        have hHeld := hHeld2
        clear hHeld2
        try simp only [Act.put, List.setIfInBounds_toArray, List.set_cons_zero, List.set_cons_succ]
        -- 10: t22 := CALL fn85(t21) : 51
        refine wpB_act (i := 10) (by kernel_rfl) (get_of_drop rfl) (fun K hK => ?_)
        go_simp
        refine (clone_rules (HRW.out.2.1.chg HD0.out (fun _ _ h => h)) hm1).mono ?_
        rintro e' wy ⟨A1, c1, rfl, hat, hcy⟩
        have HP := hid (flat_at flat_rule hat)
        have HZ := hid (show Chg (fun _ => False) wr wy from HD0.out.trans hcy (fun _ h _ => h))
        have HKZ := hid (show Chg (fun j => j = g) wr wy from HZ.out.mono (fun _ h _ => h.elim))
        have c8y := U8.out _ HZ.out
        clear hcy hat
        refine hK.out _ _ ?_ (fun hHeld2 => ?_)
        · (first | assumption | (with_reducible exact HKZ.out) | (with_reducible exact HK2.out) | (exact HK2.out.set (fun _ => rfl) _) | (exact (HK2.out.set (fun _ => rfl) _).set (fun _ => rfl) _))
        clear hHeld hK K
        have hHeld := hHeld2
        clear hHeld2
        try simp only [Act.put, List.setIfInBounds_toArray, List.set_cons_zero, List.set_cons_succ]
        -- 17: t29 := CALL fn86(t28) : 52
        refine wpB_act (i := 17) (by kernel_rfl) (get_of_drop rfl) (fun K hK => ?_)
        go_simp
        refine (clone_nums (HRW.out.2.2.chg HZ.out (fun _ _ h => h)) hm2).mono ?_
        rintro e' wz ⟨A2, c2, rfl, hat, hcy⟩
        have HD := hid (show Ty.At (Ty.int .i64) wz (fun j => wr.heap.size ≤ j ∧ j < wz.heap.size) A2 m2 c2 r.drop from (flat_at (flat_int _) hat).mono (fun j hj => ⟨Nat.le_trans HZ.out.size hj.1, hj.2⟩))
        have HPZ := hid (show Ty.At ruleK wz (fun j => wr.heap.size ≤ j ∧ j < wz.heap.size) A1 m1 c1 r.put from (HP.out.chg hcy (fun _ _ h => h)).mono (fun j hj => ⟨hj.1, Nat.lt_of_lt_of_le hj.2 hcy.size⟩))
        have HZ2 := hid (show Chg (fun _ => False) wr wz from HZ.out.trans hcy (fun _ h _ => h))
        have HK2 := hid (show Chg (fun j => j = g) wr wz from HZ2.out.mono (fun _ h _ => h.elim))
        have HBz := hid (HZ2.out.blk HB.out (fun h => h))
        have z7 : wz.cell? ⟨g, k * 9 + 3 + 4, none⟩ = some (.slice E1 m1 d1) := U7.out _ HZ2.out
        have z8 : wz.cell? ⟨g, k * 9 + 3 + 5, none⟩ = some (.slice E2 m2 d2) := U8.out _ HZ2.out
        have f7 : wz.frozen? ⟨g, k * 9 + 3 + 4, none⟩ = false := freeAt HBz.out _
        have f8 : wz.frozen? ⟨g, k * 9 + 3 + 5, none⟩ = false := freeAt HBz.out _
        clear hcy hat c7 c8 c8y
        refine hK.out _ _ ?_ (fun hHeld2 => ?_)
        · (first | assumption | (with_reducible exact HKZ.out) | (with_reducible exact HK2.out) | (exact HK2.out.set (fun _ => rfl) _) | (exact (HK2.out.set (fun _ => rfl) _).set (fun _ => rfl) _))
        clear hHeld hK K
        have hHeld := hHeld2
        clear hHeld2
        try simp only [Act.put, List.setIfInBounds_toArray, List.set_cons_zero, List.set_cons_succ]
        -- 18: t30 := indexAddr 24 t12 t13 : 0
        refine wpB_take (i := 18) (v := ?_) (get_of_drop rfl) (by kernel_rfl) (by kernel_rfl) (by kernel_rfl) (by kernel_rfl) (fun _ _ _ h => h) (Or.inl ⟨by rfl, ?_⟩) hHeld ?_
        rotate_left
        · (intro w hSw; (try dsimp only at hSw); go_simp <;> with_reducible rfl)
        try simp only [Act.put, List.setIfInBounds_toArray, List.set_cons_zero, List.set_cons_succ]
        -- 19: t31 := fieldAddr 56 t30 3 : 0
        refine wpB_take (i := 19) (v := ?_) (get_of_drop rfl) (by kernel_rfl) (by kernel_rfl) (by kernel_rfl) (by kernel_rfl) (fun _ _ _ h => h) (Or.inl ⟨by rfl, ?_⟩) hHeld ?_
        rotate_left
        · (intro w hSw; (try dsimp only at hSw); go_simp <;> with_reducible rfl)
        try simp only [Act.put, List.setIfInBounds_toArray, List.set_cons_zero, List.set_cons_succ]
        -- 20: t32 := fieldAddr 54 t31 4 : 0
        refine wpB_take (i := 20) (v := ?_) (get_of_drop rfl) (by kernel_rfl) (by kernel_rfl) (by kernel_rfl) (by kernel_rfl) (fun _ _ _ h => h) (Or.inl ⟨by rfl, ?_⟩) hHeld ?_
        rotate_left
        · (intro w hSw; (try dsimp only at hSw); go_simp <;> with_reducible rfl)
        try simp only [Act.put, List.setIfInBounds_toArray, List.set_cons_zero, List.set_cons_succ]
        -- 21: t- := store 51 t32 t22 : 0
        refine wpB_act (i := 21) (by kernel_rfl) (get_of_drop rfl) (fun K hK => ?_)
        go_simp
        refine hK.out _ _ ?_ (fun hHeld2 => ?_)
        · (first | assumption | (with_reducible exact HKZ.out) | (with_reducible exact HK2.out) | (exact HK2.out.set (fun _ => rfl) _) | (exact (HK2.out.set (fun _ => rfl) _).set (fun _ => rfl) _))
        clear hHeld hK K
        have hHeld := hHeld2
        clear hHeld2
        try simp only [Act.put, List.setIfInBounds_toArray, List.set_cons_zero, List.set_cons_succ]
        -- 22: t33 := indexAddr 24 t14 t15 : 0
        refine wpB_take (i := 22) (v := ?_) (get_of_drop rfl) (by kernel_rfl) (by kernel_rfl) (by kernel_rfl) (by kernel_rfl) (fun _ _ _ h => h) (Or.inl ⟨by rfl, ?_⟩) hHeld ?_
        rotate_left
        · (intro w hSw; (try dsimp only at hSw); go_simp <;> with_reducible rfl)
        try simp only [Act.put, List.setIfInBounds_toArray, List.set_cons_zero, List.set_cons_succ]
        -- 23: t34 := fieldAddr 56 t33 3 : 0
        refine wpB_take (i := 23) (v := ?_) (get_of_drop rfl) (by kernel_rfl) (by kernel_rfl) (by kernel_rfl) (by kernel_rfl) (fun _ _ _ h => h) (Or.inl ⟨by rfl, ?_⟩) hHeld ?_
        rotate_left
        · (intro w hSw; (try dsimp only at hSw); go_simp <;> with_reducible rfl)
        try simp only [Act.put, List.setIfInBounds_toArray, List.set_cons_zero, List.set_cons_succ]
        -- 24: t35 := fieldAddr 54 t34 5 : 0
        refine wpB_take (i := 24) (v := ?_) (get_of_drop rfl) (by kernel_rfl) (by kernel_rfl) (by kernel_rfl) (by kernel_rfl) (fun _ _ _ h => h) (Or.inl ⟨by rfl, ?_⟩) hHeld ?_
        rotate_left
        · (intro w hSw; (try dsimp only at hSw); go_simp <;> with_reducible rfl)
        try simp only [Act.put, List.setIfInBounds_toArray, List.set_cons_zero, List.set_cons_succ]
        -- 25: t- := store 52 t35 t29 : 0 (BARRIER)
        refine wpB_bar (i := 25) (by kernel_rfl) (get_of_drop rfl) (by kernel_rfl) (fun K hK => ?_)
        go_simp
        refine hK.out _ _ (fun _ : World => True) ?_
        clear hHeld hK K
        have hHeld := trivial
        try simp only [Act.put, List.setIfInBounds_toArray, List.set_cons_zero, List.set_cons_succ]
        refine wpB_done (by kernel_rfl) ?_ _
        have HS2 := hid (HK.out.step HR.out HZ2.out HC.out.size HPZ.out HD.out)
        have HC2 := hid (show Chg (fun _ => False) w ((wz.setCell ⟨g, k * 9 + 3 + 4, none⟩ (.slice A1 m1 c1)).setCell ⟨g, k * 9 + 3 + 5, none⟩ (.slice A2 m2 c2)) from HC.out.trans ((HK2.out.set (p := ⟨g, k * 9 + 3 + 4, none⟩) (fun _ => rfl) (.slice A1 m1 c1)).set (p := ⟨g, k * 9 + 3 + 5, none⟩) (fun _ => rfl) (.slice A2 m2 c2)) (fun j hj hl => by have := HS.out g rfl; omega))
        clear z7 z8 f7 f8
        go_wp2_with fail
        go_roundw
        case measure => simp [intOf]; omega
        case rel => exact ⟨k + 1, hlt, by go_num, HS2.out, HC2.out⟩
    · have hkn : ¬ (k : Int) < (n : Int) := by omega
      obtain rfl : n = k := by omega
      go_wp2_with fail
      go_ret
      obtain ⟨cells, q1, q2⟩ := HK.out
      refine ⟨B, d, rfl, ⟨cells, by rw [← L1.out]; exact q1, HS.out, by rw [q1.1, L1.out]; rfl, fun i x hx => entryK.mono (q2 i x hx) (fun j hj => ⟨hj.1.1 (by rw [L1.out]; exact (List.getElem?_eq_some_iff.1 hx).1), hj.2⟩)⟩, HC.out⟩
end Go.Proofs.Ytaldoajdhbndhaa.Pa


/- What a replica is in memory; its small functions. -/

namespace Go.Proofs.Ytaldoajdhbndhaa.Pa

set_option linter.unusedVariables false

set_option linter.unusedSimpArgs false

open Go.RowKit Go.Proofs.Ytaldoajdhbndhaa.C

attribute [local go_sem] max2_int min2_int max_two min_two

/-- What is written of a replica, beside what it says. -/
def M4 (p b1 b2 b3 : Nat) : Nat → Prop := fun k => k = p ∨ k = b1 ∨ k = b2 ∨ k = b3
/-- Where what it reads may lie. -/
def Lg (X : Nat → Prop) (O : Value) : Nat → Prop := fun k => ¬ X k ∧ O.ownBlock ≠ some k
def Chgs (w : World) (R : Nat → Prop) (L : List (Int × Msg)) (V : List (Int × Value)) : Prop :=
  V.map (·.1) = L.map (·.1) ∧ ∀ (i : Nat) q v, L[i]? = some q → V[i]? = some v → ∃ cs, v.2 = .agg cs ∧ msgK.K w R q.2 cs.toList
theorem Chgs.chg {w w' : World} {R M : Nat → Prop} {L : List (Int × Msg)} {V : List (Int × Value)} (h : Chgs w R L V) (hc : Chg M w w') (hd : ∀ k, R k → ¬ M k) : Chgs w' R L V :=
  ⟨h.1, fun i q v hq hv => by obtain ⟨cs, e1, e2⟩ := h.2 i q v hq hv; exact ⟨cs, e1, msgK.chg e2 hc hd⟩⟩
theorem Chgs.mono {w : World} {R R' : Nat → Prop} {L : List (Int × Msg)} {V : List (Int × Value)} (h : Chgs w R L V) (hd : ∀ k, R k → R' k) : Chgs w R' L V :=
  ⟨h.1, fun i q v hq hv => by obtain ⟨cs, e1, e2⟩ := h.2 i q v hq hv; exact ⟨cs, e1, msgK.mono e2 hd⟩⟩
theorem Chgs.bound {w : World} {R : Nat → Prop} {L : List (Int × Msg)} {V : List (Int × Value)} (h : Chgs w R L V) : Chgs w (fun k => R k ∧ k < w.heap.size) L V :=
  ⟨h.1, fun i q v hq hv => by obtain ⟨cs, e1, e2⟩ := h.2 i q v hq hv; exact ⟨cs, e1, msgK.bound e2⟩⟩
structure Rep (w0 w : World) (p b1 b2 b3 : Nat) (X : Nat → Prop) (r : Rp) (A : Option Addr) (n c : Nat) (O : Value) : Prop where
  sz : w0.heap.size ≤ w.heap.size
  lt : p < w0.heap.size ∧ b1 < w0.heap.size ∧ b2 < w0.heap.size ∧ b3 < w0.heap.size
  ne : b1 ≠ b2 ∧ b1 ≠ b3 ∧ b2 ≠ b3
  sub : (∀ k, M4 p b1 b2 b3 k → X k) ∧ ∀ k, X k → k < w0.heap.size
  blk : w.heap[p]? = some (.cells #[.int .i64 r.n, .int .i64 r.id, .int .i64 r.tm, .int .i64 r.s.view, .int .i64 r.s.normal, .int .i64 r.s.commit, .int .i64 r.s.active, .slice A n c, .bool r.ch, .map (some b1), .map (some b2), .map (some b3), .bool r.said, .int .i64 r.quiet, O] 100 (0, 0))
  acks : IM w b1 (r.acks.map (fun q => (q.1, Value.int .i64 q.2)))
  starts : IM w b2 (r.starts.map (fun q => (q.1, Value.bool q.2)))
  chgs : ∃ V, IM w b3 V ∧ Chgs w (Lg X O) r.chgs V
  log : Ty.At entryK w (Lg X O) A n c r.s.log
  out : Vec msgK 41 w (fun k => w0.heap.size ≤ k) (fun k => w0.heap.size ≤ k) O r.out
theorem Rep.nep {w0 w : World} {p b1 b2 b3 : Nat} {X : Nat → Prop} {r : Rp} {A : Option Addr} {n c : Nat} {O : Value} (h : Rep w0 w p b1 b2 b3 X r A n c O) : b1 ≠ p ∧ b2 ≠ p ∧ b3 ≠ p :=
  ⟨h.acks.ne h.blk, h.starts.ne h.blk, by obtain ⟨V, h3, _⟩ := h.chgs; exact h3.ne h.blk⟩
theorem Rep.outB {w0 w : World} {p b1 b2 b3 : Nat} {X : Nat → Prop} {r : Rp} {A : Option Addr} {n c : Nat} {O : Value} (h : Rep w0 w p b1 b2 b3 X r A n c O) (k : Nat) (hk : O.ownBlock = some k) : w0.heap.size ≤ k ∧ k < w.heap.size := ⟨h.out.inS k hk, h.out.lt k hk⟩
/-- Other memory may change. -/
theorem Rep.far {w0 w W : World} {p b1 b2 b3 : Nat} {X : Nat → Prop} {r : Rp} {A : Option Addr} {n c : Nat} {O : Value} (h : Rep w0 w p b1 b2 b3 X r A n c O) (hc : Chg (fun _ => False) w W) : Rep w0 W p b1 b2 b3 X r A n c O := by
  obtain ⟨V, h3, h4⟩ := h.chgs
  exact ⟨Nat.le_trans h.sz hc.size, h.lt, h.ne, h.sub, hc.blk h.blk (fun h => h), h.acks.chg hc (fun h => h), h.starts.chg hc (fun h => h), ⟨V, h3.chg hc (fun h => h), h4.chg hc (fun _ _ h => h)⟩, h.log.chg hc (fun _ _ h => h), h.out.chg hc (fun _ _ h => h) (fun _ _ _ _ h => h)⟩
/-- Its own cells were written: numbers alone. -/
theorem Rep.put {w0 w W : World} {p b1 b2 b3 : Nat} {X : Nat → Prop} {r r' : Rp} {A : Option Addr} {n c : Nat} {O : Value} (h : Rep w0 w p b1 b2 b3 X r A n c O) (hc : Chg (fun k => k = p) w W)
    (hb : W.heap[p]? = some (.cells #[.int .i64 r'.n, .int .i64 r'.id, .int .i64 r'.tm, .int .i64 r'.s.view, .int .i64 r'.s.normal, .int .i64 r'.s.commit, .int .i64 r'.s.active, .slice A n c, .bool r'.ch, .map (some b1), .map (some b2), .map (some b3), .bool r'.said, .int .i64 r'.quiet, O] 100 (0, 0))) (e1 : r'.acks = r.acks) (e2 : r'.starts = r.starts) (e3 : r'.chgs = r.chgs) (e4 : r'.s.log = r.s.log) (e5 : r'.out = r.out) : Rep w0 W p b1 b2 b3 X r' A n c O := by
  obtain ⟨V, h3, h4⟩ := h.chgs
  have hn := h.nep
  have hl : ∀ k, Lg X O k → ¬ k = p := fun k hk e => hk.1 (h.sub.1 k (.inl e))
  have ho : ∀ k, w0.heap.size ≤ k → ¬ k = p := fun k hk e => by have := h.lt.1; omega
  exact ⟨Nat.le_trans h.sz hc.size, h.lt, h.ne, h.sub, hb, by rw [e1]; exact h.acks.chg hc hn.1, by rw [e2]; exact h.starts.chg hc hn.2.1, ⟨V, h3.chg hc hn.2.2, by rw [e3]; exact h4.chg hc hl⟩, by rw [e4]; exact h.log.chg hc hl, by rw [e5]; exact h.out.chg hc (fun k hk => ho k (h.out.inS k hk)) (fun k hk _ _ => ho k hk)⟩
set_option maxHeartbeats 4000000 in
set_option maxRecDepth 100000 in
theorem cfg_any (n id tm : Int) (w : World) : Calls Try.prog 44 #[.agg #[.int .i64 n, .int .i64 id, .int .i64 tm]] w fun e' w' => e' = .returned (.bool (cfgR n id tm)) ∧ Chg (fun _ => False) w w' := by
  have HG := hid (show ∀ b : Bool, (b = true ↔ ((n = 3 ∨ n = 5 ∨ n = 7) ∧ 0 ≤ id ∧ id < n ∧ 2 ≤ tm ∧ tm ≤ 100)) → cfgR n id tm = b from fun b hb => by
    unfold cfgR
    cases b
    · rw [decide_eq_false_iff_not]; intro h; exact absurd (hb.2 h) (by decide)
    · rw [decide_eq_true_eq]; exact hb.1 rfl)
  have HN := hid (show n = 3 ∨ n = 5 ∨ n = 7 ∨ (n ≠ 3 ∧ n ≠ 5 ∧ n ≠ 7) by omega)
  have HB := hid (Nat.le_refl w.heap.size)
  have GO : ∀ b : Bool, (b = true ↔ ((n = 3 ∨ n = 5 ∨ n = 7) ∧ 0 ≤ id ∧ id < n ∧ 2 ≤ tm ∧ tm ≤ 100)) → (fun e' (w' : World) => e' = Ending.returned (.bool (cfgR n id tm)) ∧ Chg (fun _ => False) w w') (.returned (.bool b)) (w.alloc (.cells #[.int .i64 n, .int .i64 id, .int .i64 tm] 23)) := fun b hb => ⟨by rw [HG.out b hb], (Chg.refl _ w).alloc _⟩
  clear HG
  go_enter Try.func44, Try.ntmps44
  rcases HN.out with rfl | rfl | rfl | ⟨k1, k2, k3⟩
  · by_cases k4 : 0 ≤ id <;> by_cases k5 : id < 3 <;> by_cases k6 : 2 ≤ tm <;> by_cases k7 : tm ≤ 100
    all_goals first | (exfalso; omega) | (go_wp2_with fail; go_ret; exact GO _ (by simp; try omega))
  · by_cases k4 : 0 ≤ id <;> by_cases k5 : id < 5 <;> by_cases k6 : 2 ≤ tm <;> by_cases k7 : tm ≤ 100
    all_goals first | (exfalso; omega) | (go_wp2_with fail; go_ret; exact GO _ (by simp; try omega))
  · by_cases k4 : 0 ≤ id <;> by_cases k5 : id < 7 <;> by_cases k6 : 2 ≤ tm <;> by_cases k7 : tm ≤ 100
    all_goals first | (exfalso; omega) | (go_wp2_with fail; go_ret; exact GO _ (by simp; try omega))
  · by_cases k4 : 0 ≤ id <;> by_cases k5 : id < n <;> by_cases k6 : 2 ≤ tm <;> by_cases k7 : tm ≤ 100
    all_goals first | (exfalso; omega) | (go_wp2_with fail; go_ret; exact GO _ (by simp; try omega))
end Go.Proofs.Ytaldoajdhbndhaa.Pa


/- The small functions of a replica. -/

namespace Go.Proofs.Ytaldoajdhbndhaa.Pa

set_option linter.unusedVariables false

set_option linter.unusedSimpArgs false

open Go.RowKit Go.Proofs.Ytaldoajdhbndhaa.C

attribute [local go_sem] max2_int min2_int max_two min_two

set_option maxHeartbeats 4000000 in
set_option maxRecDepth 100000 in
theorem prim_any {w0 w : World} {p b1 b2 b3 : Nat} {X : Nat → Prop} {r : Rp} {A : Option Addr} {n c : Nat} {O : Value} (h : Rep w0 w p b1 b2 b3 X r A n c O) {v : Int} (hc : r.n = 3 ∨ r.n = 5 ∨ r.n = 7) (hv : 0 ≤ v ∧ v ≤ 1099511627776) :
    Calls Try.prog 48 #[.pointer (some ⟨p, 0, none⟩), .int .i64 v] w fun e' w' => e' = .returned (.int .i64 (primR r v)) ∧ w = w' := by
  have BP := hid h.blk
  have P_0 : w.cell? ⟨p, 0, none⟩ = some (.int .i64 r.n) := (cellAt BP.out 0).trans rfl
  clear h BP
  go_enter Try.func48, Try.ntmps48
  go_wp2_with fail
  go_ret
  exact ⟨rfl, rfl⟩
set_option maxHeartbeats 4000000 in
set_option maxRecDepth 100000 in
theorem half_any {w0 w : World} {p b1 b2 b3 : Nat} {X : Nat → Prop} {r : Rp} {A : Option Addr} {n c : Nat} {O : Value} (h : Rep w0 w p b1 b2 b3 X r A n c O) (hc : r.n = 3 ∨ r.n = 5 ∨ r.n = 7) :
    Calls Try.prog 88 #[.pointer (some ⟨p, 0, none⟩)] w fun e' w' => e' = .returned (.int .i64 (halfR r)) ∧ w = w' := by
  have BP := hid h.blk
  have P_0 : w.cell? ⟨p, 0, none⟩ = some (.int .i64 r.n) := (cellAt BP.out 0).trans rfl
  clear h BP
  go_enter Try.func88, Try.ntmps88
  go_wp2_with fail
  go_ret
  exact ⟨rfl, rfl⟩
set_option maxHeartbeats 4000000 in
set_option maxRecDepth 100000 in
theorem length_any {w0 w : World} {p b1 b2 b3 : Nat} {X : Nat → Prop} {r : Rp} {A : Option Addr} {n c : Nat} {O : Value} (h : Rep w0 w p b1 b2 b3 X r A n c O) (hl : n ≤ 64) :
    Calls Try.prog 76 #[.pointer (some ⟨p, 0, none⟩)] w fun e' w' => e' = .returned (.int .i64 (n : Int)) ∧ w = w' := by
  have BP := hid h.blk
  have P_7 : w.cell? ⟨p, 7, none⟩ = some (.slice A n c) := (cellAt BP.out 7).trans rfl
  clear h BP
  go_enter Try.func76, Try.ntmps76
  go_wp2_with fail
  go_ret
  exact ⟨rfl, rfl⟩
set_option maxHeartbeats 4000000 in
set_option maxRecDepth 100000 in
theorem role_any {w0 w : World} {p b1 b2 b3 : Nat} {X : Nat → Prop} {r : Rp} {A : Option Addr} {n c : Nat} {O : Value} (h : Rep w0 w p b1 b2 b3 X r A n c O) (hc : r.n = 3 ∨ r.n = 5 ∨ r.n = 7) (hv : 0 ≤ r.s.view ∧ r.s.view ≤ 1099511627776) :
    Calls Try.prog 16 #[.pointer (some ⟨p, 0, none⟩)] w fun e' w' => e' = .returned (.int .i64 (roleR r)) ∧ Chg (fun _ => False) w w' := by
  have BP := hid h.blk
  have H := hid h
  have P_8 : w.cell? ⟨p, 8, none⟩ = some (.bool r.ch) := (cellAt BP.out 8).trans rfl
  have U_0 : ∀ wx, Chg (fun _ => False) w wx → wx.cell? ⟨p, 0, none⟩ = some (.int .i64 r.n) := fun wx hx => (cellAt (hx.blk BP.out (fun h => h)) 0).trans rfl
  have U_1 : ∀ wx, Chg (fun _ => False) w wx → wx.cell? ⟨p, 1, none⟩ = some (.int .i64 r.id) := fun wx hx => (cellAt (hx.blk BP.out (fun h => h)) 1).trans rfl
  have U_3 : ∀ wx, Chg (fun _ => False) w wx → wx.cell? ⟨p, 3, none⟩ = some (.int .i64 r.s.view) := fun wx hx => (cellAt (hx.blk BP.out (fun h => h)) 3).trans rfl
  clear h
  go_enter Try.func16, Try.ntmps16
  cases hch : r.ch
  case true =>
    rw [hch] at P_8
    go_wp2_with fail
    go_ret
    exact ⟨by unfold roleR; rw [hch]; rfl, Chg.refl _ _⟩
  case false =>
    rw [hch] at P_8
    have HR := hid (show ∀ b : Bool, (primR r r.s.view == r.id) = b → roleR r = if b then 1 else 0 from fun b hb => by unfold roleR; rw [hch, ← hb]; simp)
    clear hch
    go_wp2_with fail
    refine wpB_start (fun wx : World => Chg (fun _ => False) w wx) (by kernel_rfl) ?_
    have hHeld : (fun wx : World => Chg (fun _ => False) w wx) _ := (Chg.refl (fun _ => False) w).drew
    -- 0: t9 := move t0 : 30
    refine wpB_take (i := 0) (v := ?_) (get_of_drop rfl) (by kernel_rfl) (by kernel_rfl) (by kernel_rfl) (by kernel_rfl) (fun _ _ _ h => h) (Or.inl ⟨by rfl, ?_⟩) hHeld ?_
    rotate_left
    · (intro w hSw; (try dsimp only at hSw); go_simp <;> with_reducible rfl)
    try simp only [Act.put, List.setIfInBounds_toArray, List.set_cons_zero, List.set_cons_succ]
    -- 1: t10 := move t0 : 30
    refine wpB_take (i := 1) (v := ?_) (get_of_drop rfl) (by kernel_rfl) (by kernel_rfl) (by kernel_rfl) (by kernel_rfl) (fun _ _ _ h => h) (Or.inl ⟨by rfl, ?_⟩) hHeld ?_
    rotate_left
    · (intro w hSw; (try dsimp only at hSw); go_simp <;> with_reducible rfl)
    try simp only [Act.put, List.setIfInBounds_toArray, List.set_cons_zero, List.set_cons_succ]
    -- 2: t11 := nilCheck t10 : 0
    refine wpB_take (i := 2) (v := ?_) (get_of_drop rfl) (by kernel_rfl) (by kernel_rfl) (by kernel_rfl) (by kernel_rfl) (fun _ _ _ h => h) (Or.inl ⟨by rfl, ?_⟩) hHeld ?_
    rotate_left
    · (intro w hSw; (try dsimp only at hSw); go_simp <;> with_reducible rfl)
    try simp only [Act.put, List.setIfInBounds_toArray, List.set_cons_zero, List.set_cons_succ]
    -- 3: t12 := fieldAddr 100 t11 1 : 0
    refine wpB_take (i := 3) (v := ?_) (get_of_drop rfl) (by kernel_rfl) (by kernel_rfl) (by kernel_rfl) (by kernel_rfl) (fun _ _ _ h => h) (Or.inl ⟨by rfl, ?_⟩) hHeld ?_
    rotate_left
    · (intro w hSw; (try dsimp only at hSw); go_simp <;> with_reducible rfl)
    try simp only [Act.put, List.setIfInBounds_toArray, List.set_cons_zero, List.set_cons_succ]
    -- 4: t13 := fieldAddr 26 t12 0 : 0
    refine wpB_take (i := 4) (v := ?_) (get_of_drop rfl) (by kernel_rfl) (by kernel_rfl) (by kernel_rfl) (by kernel_rfl) (fun _ _ _ h => h) (Or.inl ⟨by rfl, ?_⟩) hHeld ?_
    rotate_left
    · (intro w hSw; (try dsimp only at hSw); go_simp <;> with_reducible rfl)
    try simp only [Act.put, List.setIfInBounds_toArray, List.set_cons_zero, List.set_cons_succ]
    -- 5: t14 := load 3 t13 : 3
    refine wpB_take (i := 5) (v := ?_) (get_of_drop rfl) (by kernel_rfl) (by kernel_rfl) (by kernel_rfl) (by kernel_rfl) (fun _ _ _ h => h) (Or.inl ⟨by rfl, ?_⟩) hHeld ?_
    rotate_left
    · (intro w hSw; (try dsimp only at hSw); go_simp <;> with_reducible rfl)
    try simp only [Act.put, List.setIfInBounds_toArray, List.set_cons_zero, List.set_cons_succ]
    -- 7: t16 := move t0 : 30
    refine wpB_take (i := 7) (v := ?_) (get_of_drop rfl) (by kernel_rfl) (by kernel_rfl) (by kernel_rfl) (by kernel_rfl) (fun _ _ _ h => h) (Or.inl ⟨by rfl, ?_⟩) hHeld ?_
    rotate_left
    · (intro w hSw; (try dsimp only at hSw); go_simp <;> with_reducible rfl)
    try simp only [Act.put, List.setIfInBounds_toArray, List.set_cons_zero, List.set_cons_succ]
    -- 8: t17 := nilCheck t16 : 0
    refine wpB_take (i := 8) (v := ?_) (get_of_drop rfl) (by kernel_rfl) (by kernel_rfl) (by kernel_rfl) (by kernel_rfl) (fun _ _ _ h => h) (Or.inl ⟨by rfl, ?_⟩) hHeld ?_
    rotate_left
    · (intro w hSw; (try dsimp only at hSw); go_simp <;> with_reducible rfl)
    try simp only [Act.put, List.setIfInBounds_toArray, List.set_cons_zero, List.set_cons_succ]
    -- 9: t18 := fieldAddr 100 t17 0 : 0
    refine wpB_take (i := 9) (v := ?_) (get_of_drop rfl) (by kernel_rfl) (by kernel_rfl) (by kernel_rfl) (by kernel_rfl) (fun _ _ _ h => h) (Or.inl ⟨by rfl, ?_⟩) hHeld ?_
    rotate_left
    · (intro w hSw; (try dsimp only at hSw); go_simp <;> with_reducible rfl)
    try simp only [Act.put, List.setIfInBounds_toArray, List.set_cons_zero, List.set_cons_succ]
    -- 10: t19 := fieldAddr 23 t18 1 : 0
    refine wpB_take (i := 10) (v := ?_) (get_of_drop rfl) (by kernel_rfl) (by kernel_rfl) (by kernel_rfl) (by kernel_rfl) (fun _ _ _ h => h) (Or.inl ⟨by rfl, ?_⟩) hHeld ?_
    rotate_left
    · (intro w hSw; (try dsimp only at hSw); go_simp <;> with_reducible rfl)
    try simp only [Act.put, List.setIfInBounds_toArray, List.set_cons_zero, List.set_cons_succ]
    -- 11: t20 := load 3 t19 : 3
    refine wpB_take (i := 11) (v := ?_) (get_of_drop rfl) (by kernel_rfl) (by kernel_rfl) (by kernel_rfl) (by kernel_rfl) (fun _ _ _ h => h) (Or.inl ⟨by rfl, ?_⟩) hHeld ?_
    rotate_left
    · (intro w hSw; (try dsimp only at hSw); go_simp <;> with_reducible rfl)
    try simp only [Act.put, List.setIfInBounds_toArray, List.set_cons_zero, List.set_cons_succ]
    -- 6: t15 := CALL fn48(t9, t14) : 3
    refine wpB_act (i := 6) (by kernel_rfl) (get_of_drop rfl) (fun K hK => ?_)
    go_simp
    refine (prim_any (H.out.far hHeld) hc hv).mono ?_
    rintro e' wy ⟨rfl, rfl⟩
    refine hK.out _ _ ?_ (fun hHeld2 => ?_)
    · first | assumption | exact Chg.alloc hHeld _
    clear hHeld hK K
    have hHeld := hHeld2
    clear hHeld2
    try simp only [Act.put, List.setIfInBounds_toArray, List.set_cons_zero, List.set_cons_succ]
    -- 12: t21 := binOp BinOp.eql 3 t15 t20 3 : 4
    refine wpB_take (i := 12) (v := ?_) (get_of_drop rfl) (by kernel_rfl) (by kernel_rfl) (by kernel_rfl) (by kernel_rfl) (fun _ _ _ h => h) (Or.inl ⟨by rfl, ?_⟩) hHeld ?_
    rotate_left
    · (intro w hSw; (try dsimp only at hSw); go_simp <;> with_reducible rfl)
    try simp only [Act.put, List.setIfInBounds_toArray, List.set_cons_zero, List.set_cons_succ]
    -- 13: t8 := assign t21 : 4
    refine wpB_take (i := 13) (v := ?_) (get_of_drop rfl) (by kernel_rfl) (by kernel_rfl) (by kernel_rfl) (by kernel_rfl) (fun _ _ _ h => h) (Or.inl ⟨by rfl, ?_⟩) hHeld ?_
    rotate_left
    · (intro w hSw; (try dsimp only at hSw); go_simp <;> with_reducible rfl)
    try simp only [Act.put, List.setIfInBounds_toArray, List.set_cons_zero, List.set_cons_succ]
    refine wpB_done (by kernel_rfl) ?_ _
    cases hp : (primR r r.s.view == r.id)
    · go_wp2_with fail
      go_ret
      exact ⟨by rw [HR.out _ hp]; rfl, hHeld⟩
    · go_wp2_with fail
      go_ret
      exact ⟨by rw [HR.out _ hp]; rfl, hHeld⟩
end Go.Proofs.Ytaldoajdhbndhaa.Pa


/- forget, enter, sent. -/

namespace Go.Proofs.Ytaldoajdhbndhaa.Pa

set_option linter.unusedVariables false

set_option linter.unusedSimpArgs false

open Go.RowKit Go.Proofs.Ytaldoajdhbndhaa.C

attribute [local go_sem] max2_int min2_int max_two min_two

theorem map_ty1 : Try.prog.underlying 96 = some (.map 3 3) := by first | exact Try.underlying96 | kernel_rfl
theorem map_ty2 : Try.prog.underlying 97 = some (.map 3 4) := by first | exact Try.underlying97 | kernel_rfl
theorem map_ty3 : Try.prog.underlying 98 = some (.map 3 41) := by first | exact Try.underlying98 | kernel_rfl
/-- What a function of a replica leaves: another replica in the same blocks. -/
def RepTo (w0 w : World) (p b1 b2 b3 : Nat) (X : Nat → Prop) (O : Value) (v : Value) (r' : Rp) (e' : Ending) (w' : World) : Prop :=
  ∃ A' n' c' O', e' = .returned v ∧ Rep w0 w' p b1 b2 b3 X r' A' n' c' O' ∧ (∀ k, O'.ownBlock = some k → O.ownBlock = some k ∨ w.heap.size ≤ k) ∧ Chg (fun k => M4 p b1 b2 b3 k ∨ O.ownBlock = some k) w w'
/-- .. with its log and what it says where they were. -/
def RepAt (w0 w : World) (p b1 b2 b3 : Nat) (X : Nat → Prop) (r' : Rp) (A : Option Addr) (n c : Nat) (O : Value) (e' : Ending) (w' : World) : Prop :=
  e' = .returned (.tuple #[]) ∧ Rep w0 w' p b1 b2 b3 X r' A n c O ∧ Chg (M4 p b1 b2 b3) w w'
set_option maxHeartbeats 4000000 in
set_option maxRecDepth 100000 in
theorem forget_any {w0 w : World} {p b1 b2 b3 : Nat} {X : Nat → Prop} {r : Rp} {A : Option Addr} {n c : Nat} {O : Value} (h : Rep w0 w p b1 b2 b3 X r A n c O) :
    Calls Try.prog 46 #[.pointer (some ⟨p, 0, none⟩)] w (RepAt w0 w p b1 b2 b3 X (forgetR r) A n c O) := by
  have BP := hid h.blk
  have H := hid h
  have N := hid h.nep
  have P_9 : w.cell? ⟨p, 9, none⟩ = some (.map (some b1)) := (cellAt BP.out 9).trans rfl
  obtain ⟨w1, hr1, g1, k1⟩ := h.acks.clear (P := Try.prog) map_ty1 0
  have C1 := hid k1
  have B1 := hid (k1.blk BP.out (Ne.symm N.out.1))
  have G1 := hid g1
  obtain ⟨w2, hr2, g2, k2⟩ := (h.starts.chg k1 (Ne.symm h.ne.1)).clear (P := Try.prog) map_ty2 0
  have C2 := hid k2
  have B2 := hid (k2.blk B1.out (Ne.symm N.out.2.1))
  have G2 := hid g2
  obtain ⟨V, hV, _⟩ := h.chgs
  obtain ⟨w3, hr3, g3, k3⟩ := ((hV.chg k1 (Ne.symm h.ne.2.1)).chg k2 (Ne.symm h.ne.2.2)).clear (P := Try.prog) map_ty3 0
  have C3 := hid k3
  have B3 := hid (k3.blk B2.out (Ne.symm N.out.2.2))
  have G3 := hid g3
  have P_10 : w1.cell? ⟨p, 10, none⟩ = some (.map (some b2)) := (cellAt B1.out 10).trans rfl
  have P_11 : w2.cell? ⟨p, 11, none⟩ = some (.map (some b3)) := (cellAt B2.out 11).trans rfl
  have P_12 : w3.cell? ⟨p, 12, none⟩ = some (.bool r.said) := (cellAt B3.out 12).trans rfl
  have P_13 : w3.cell? ⟨p, 13, none⟩ = some (.int .i64 r.quiet) := (cellAt B3.out 13).trans rfl
  have F_12 : w3.frozen? ⟨p, 12, none⟩ = false := freeAt B3.out 12
  have F_13 : w3.frozen? ⟨p, 13, none⟩ = false := freeAt B3.out 13
  clear h k1 k2 k3 g1 g2 g3 hV
  go_enter Try.func46, Try.ntmps46
  go_wp2_with fail
  go_end0
  have N1 := N.out
  have NE := H.out.ne
  have CS := ((Chg.refl (fun k => k = p) w3).set (p := ⟨p, 12, none⟩) (fun _ => rfl) (.bool false)).set (p := ⟨p, 13, none⟩) (fun _ => rfl) (.int .i64 0)
  have hb := blk_set (blk_set B3.out 12 (.bool false)) 13 (.int .i64 0)
  have CA : Chg (M4 p b1 b2 b3) w w3 := ((C1.out.mono (S' := M4 p b1 b2 b3) (fun k hk _ => .inr (.inl hk))).trans C2.out (fun k hk _ => .inr (.inr (.inl hk)))).trans C3.out (fun k hk _ => .inr (.inr (.inr hk)))
  have CW := CA.trans CS (fun k hk _ => .inl hk)
  have hl : ∀ k, Lg X O k → ¬ M4 p b1 b2 b3 k := fun k hk e => hk.1 (H.out.sub.1 k e)
  have ho : ∀ k, w0.heap.size ≤ k → ¬ M4 p b1 b2 b3 k := fun k hk e => by
    have := H.out.lt
    rcases e with e | e | e | e <;> omega
  exact ⟨rfl, ⟨Nat.le_trans H.out.sz CW.size, H.out.lt, H.out.ne, H.out.sub, hb, ((G1.out.chg C2.out NE.1).chg C3.out NE.2.1).chg CS N1.1, (G2.out.chg C3.out NE.2.2).chg CS N1.2.1, ⟨[], G3.out.chg CS N1.2.2, rfl, fun i q v hq _ => by cases hq⟩, H.out.log.chg CW hl, H.out.out.chg CW (fun k hk => ho k (H.out.out.inS k hk)) (fun k hk _ _ => ho k hk)⟩, CW⟩
set_option maxHeartbeats 4000000 in
set_option maxRecDepth 100000 in
theorem enter_any {w0 w : World} {p b1 b2 b3 : Nat} {X : Nat → Prop} {r : Rp} {A : Option Addr} {n c : Nat} {O : Value} (h : Rep w0 w p b1 b2 b3 X r A n c O) {v : Int} :
    Calls Try.prog 87 #[.pointer (some ⟨p, 0, none⟩), .int .i64 v] w (RepAt w0 w p b1 b2 b3 X (enterR r v) A n c O) := by
  have BP := hid h.blk
  have H := hid h
  clear h
  have P_3 : w.cell? ⟨p, 3, none⟩ = some (.int .i64 r.s.view) := (cellAt BP.out 3).trans rfl
  have P_8 : w.cell? ⟨p, 8, none⟩ = some (.bool r.ch) := (cellAt BP.out 8).trans rfl
  have F_3 : w.frozen? ⟨p, 3, none⟩ = false := freeAt BP.out 3
  have F_8 : w.frozen? ⟨p, 8, none⟩ = false := freeAt BP.out 8
  obtain ⟨w1, hWw1⟩ : ∃ q_, q_ = ((w.setCell ⟨p, 3, none⟩ (.int .i64 v)).setCell ⟨p, 8, none⟩ (.bool true)) := ⟨_, rfl⟩
  have Kw1 := hid (show Chg (fun k => k = p) w w1 by rw [hWw1]; exact (((Chg.refl (fun k => k = p) w).set (p := ⟨p, 3, none⟩) (fun _ => rfl) (.int .i64 v)).set (p := ⟨p, 8, none⟩) (fun _ => rfl) (.bool true)))
  have H2 := hid (H.out.put (r' := { r with s := { r.s with view := v }, ch := true }) Kw1.out (by rw [hWw1]; exact blk_set (blk_set (BP.out) 3 (.int .i64 v)) 8 (.bool true)) rfl rfl rfl rfl rfl)
  have HWw1 := hid hWw1
  clear hWw1
  go_enter Try.func87, Try.ntmps87
  go_wp2_with fail
  rw [← HWw1.out]
  clear HWw1 P_3 P_8 F_3 F_8
  refine (forget_any H2.out).mono ?_
  rintro e w2 ⟨rfl, h2, k2⟩
  have H3 := hid h2
  have K2 := hid k2
  clear h2 k2
  go_wp2_with fail
  go_end0
  exact ⟨rfl, H3.out, (Kw1.out.mono (S' := M4 p b1 b2 b3) (fun k hk _ => .inl hk)).trans K2.out (fun k hk _ => hk)⟩
set_option maxHeartbeats 4000000 in
set_option maxRecDepth 100000 in
theorem sent_any {w0 w : World} {p b1 b2 b3 : Nat} {X : Nat → Prop} {r : Rp} {A : Option Addr} {n c : Nat} {O : Value} (h : Rep w0 w p b1 b2 b3 X r A n c O) :
    Calls Try.prog 56 #[.pointer (some ⟨p, 0, none⟩)] w fun e' w' => e' = .returned O ∧ Rep w0 w' p b1 b2 b3 X { r with out := [] } A n c (.slice none 0 0) ∧ Vec msgK 41 w' (fun k => w0.heap.size ≤ k) (fun k => w0.heap.size ≤ k) O r.out ∧ Chg (fun k => k = p) w w' := by
  have BP := hid h.blk
  have H := hid h
  clear h
  have P_14 : w.cell? ⟨p, 14, none⟩ = some (O) := (cellAt BP.out 14).trans rfl
  have F_14 : w.frozen? ⟨p, 14, none⟩ = false := freeAt BP.out 14
  go_enter Try.func56, Try.ntmps56
  go_wp2_with fail
  go_ret
  have hc := (Chg.refl (fun k => k = p) w).set (p := ⟨p, 14, none⟩) (fun _ => rfl) (.slice none 0 0)
  obtain ⟨V, h3, h4⟩ := H.out.chgs
  have hn := H.out.nep
  have hl : ∀ k, Lg X O k → ¬ k = p := fun k hk e => hk.1 (H.out.sub.1 k (.inl e))
  have hl2 : ∀ k, Lg X O k → Lg X (.slice none 0 0) k := fun k hk => ⟨hk.1, fun e => by simp [Value.ownBlock] at e⟩
  have ho : ∀ k, w0.heap.size ≤ k → ¬ k = p := fun k hk e => by have := H.out.lt.1; omega
  exact ⟨rfl, ⟨Nat.le_trans H.out.sz hc.size, H.out.lt, H.out.ne, H.out.sub, blk_set BP.out 14 (.slice none 0 0), H.out.acks.chg hc hn.1, H.out.starts.chg hc hn.2.1, ⟨V, h3.chg hc hn.2.2, (h4.chg hc hl).mono hl2⟩, (H.out.log.chg hc hl).mono hl2, Vec.nil _ _ _ _ _⟩, H.out.out.chg hc (fun k hk => ho k (H.out.out.inS k hk)) (fun k hk _ _ => ho k hk), hc⟩
end Go.Proofs.Ytaldoajdhbndhaa.Pa


/- send. -/

namespace Go.Proofs.Ytaldoajdhbndhaa.Pa

set_option linter.unusedVariables false

set_option linter.unusedSimpArgs false

open Go.RowKit Go.Proofs.Ytaldoajdhbndhaa.C

attribute [local go_sem] max2_int min2_int max_two min_two

def NumW (u : Int) : Prop := (Lit.int .i64 u).wf = true
theorem msg_shut {w : World} {S : Nat → Prop} {m : Msg} {A : Option Addr} {n c : Nat} (hw : NumW m.kind ∧ NumW m.view ∧ NumW m.src ∧ NumW m.dst ∧ NumW m.op ∧ NumW m.commit ∧ NumW m.normal) (h : Ty.At entryK w S A n c m.log) : msgK.K w S m [.int .i64 m.kind, .int .i64 m.view, .int .i64 m.src, .int .i64 m.dst, .int .i64 m.op, .int .i64 m.commit, .int .i64 m.normal, .slice A n c] :=
  ⟨[_], _, rfl, ⟨rfl, hw.1⟩, [_], _, rfl, ⟨rfl, hw.2.1⟩, [_], _, rfl, ⟨rfl, hw.2.2.1⟩, [_], _, rfl, ⟨rfl, hw.2.2.2.1⟩, [_], _, rfl, ⟨rfl, hw.2.2.2.2.1⟩, [_], _, rfl, ⟨rfl, hw.2.2.2.2.2.1⟩, [_], _, rfl, ⟨rfl, hw.2.2.2.2.2.2⟩, A, n, c, rfl, h⟩
/-- What a function that says something leaves. -/
def Said (w0 w : World) (p b1 b2 b3 : Nat) (X : Nat → Prop) (r' : Rp) (A : Option Addr) (n c : Nat) (O : Value) (e' : Ending) (w' : World) : Prop :=
  ∃ O', e' = .returned (.tuple #[]) ∧ Rep w0 w' p b1 b2 b3 X r' A n c O' ∧ (∀ k, O'.ownBlock = some k → O.ownBlock = some k ∨ w.heap.size ≤ k) ∧ Chg (fun k => k = p ∨ O.ownBlock = some k) w w'
theorem infoMsgP : (Try.prog.info? 41).map (fun i => (i.zero, i.size, i.bytes)) = some (some (.agg #[.int .i64 0, .int .i64 0, .int .i64 0, .int .i64 0, .int .i64 0, .int .i64 0, .int .i64 0, .slice none 0 0]), 8, 80) := by kernel_rfl
set_option maxHeartbeats 4000000 in
set_option maxRecDepth 100000 in
theorem send_any {w0 w : World} {p b1 b2 b3 : Nat} {X : Nat → Prop} {r : Rp} {A : Option Addr} {n c : Nat} {O : Value} (h : Rep w0 w p b1 b2 b3 X r A n c O) {y : Int} {m : Msg} {R : Nat → Prop} {B : Option Addr} {k d : Nat} (hm : Ty.At entryK w R B k d m.log) (hk : k ≤ 1000000) (hf : Fits m.log) (hw : NumW m.kind ∧ NumW m.op ∧ NumW m.commit ∧ NumW m.normal) (hr : NumW r.s.view ∧ NumW r.id ∧ NumW y) (ho : r.out.length ≤ 1000) :
    Calls Try.prog 53 #[.pointer (some ⟨p, 0, none⟩), .int .i64 y, .agg #[.int .i64 m.kind, .int .i64 m.view, .int .i64 m.src, .int .i64 m.dst, .int .i64 m.op, .int .i64 m.commit, .int .i64 m.normal, .slice B k d]] w (Said w0 w p b1 b2 b3 X (sendR r y m) A n c O) := by
  have H := hid h
  have HPB := hid (lt_of_blk h.blk)
  obtain ⟨w1, hw1⟩ : ∃ q_, q_ = (w.alloc (.cells #[.int .i64 m.kind, .int .i64 m.view, .int .i64 m.src, .int .i64 m.dst, .int .i64 m.op, .int .i64 m.commit, .int .i64 m.normal, .slice B k d] 41)) := ⟨_, rfl⟩
  have C1 := hid (show Chg (fun _ => False) w w1 by rw [hw1]; exact (Chg.refl _ w).alloc _)
  have BX := hid (show w1.heap[w.heap.size]? = some (.cells #[.int .i64 m.kind, .int .i64 m.view, .int .i64 m.src, .int .i64 m.dst, .int .i64 m.op, .int .i64 m.commit, .int .i64 m.normal, .slice B k d] 41 (0, 0)) by
    rw [hw1]
    have := blk_new w (.cells #[.int .i64 m.kind, .int .i64 m.view, .int .i64 m.src, .int .i64 m.dst, .int .i64 m.op, .int .i64 m.commit, .int .i64 m.normal, .slice B k d] 41)
    simpa using this)
  have SZ := hid (show w1.heap.size = w.heap.size + 1 by rw [hw1]; simp)
  have H1 := hid (h.far C1.out)
  have BP := hid H1.out.blk
  have HM := hid (hm.chg C1.out (fun _ _ h => h))
  have HF := hid hf
  have HW := hid hw
  have HRW := hid hr
  have HO := hid ho
  obtain ⟨b, hb⟩ : ∃ q_, q_ = w.heap.size := ⟨_, rfl⟩
  have HBb := hid hb
  have hpb : p ≠ b := by have := HPB.out; omega
  clear h hm hf hw hr ho
  go_enter Try.func53, Try.ntmps53
  go_wp2_with fail
  rw [← hw1, ← hb]
  replace BX := hid (show w1.heap[b]? = some (.cells #[.int .i64 m.kind, .int .i64 m.view, .int .i64 m.src, .int .i64 m.dst, .int .i64 m.op, .int .i64 m.commit, .int .i64 m.normal, .slice B k d] 41 (0, 0)) by rw [hb]; exact BX.out)
  have HSZ := hid (show w1.heap.size = b + 1 by rw [hb]; exact SZ.out)
  clear hw1 hb SZ
  have U_1 : ∀ wx, Chg (fun k => k = b) w1 wx → wx.cell? ⟨p, 1, none⟩ = some (.int .i64 r.id) := fun wx hx => (cellAt (hx.blk BP.out hpb) 1).trans rfl
  have U_3 : ∀ wx, Chg (fun k => k = b) w1 wx → wx.cell? ⟨p, 3, none⟩ = some (.int .i64 r.s.view) := fun wx hx => (cellAt (hx.blk BP.out hpb) 3).trans rfl
  have x7 : w1.drew.cell? ⟨b, 7, none⟩ = some (.slice B k d) := (cellAt BX.out 7).trans rfl
  have HD := hid ((Chg.refl (fun _ => False) w1).drew)
  refine wpB_start (fun wx : World => Chg (fun k => k = b) w1 wx) (by kernel_rfl) ?_
  have hHeld : (fun wx : World => Chg (fun k => k = b) w1 wx) _ := (Chg.refl (fun k => k = b) w1).drew
  -- 0: t6 := move t0 : 30
  refine wpB_take (i := 0) (v := ?_) (get_of_drop rfl) (by kernel_rfl) (by kernel_rfl) (by kernel_rfl) (by kernel_rfl) (fun _ _ _ h => h) (Or.inl ⟨by rfl, ?_⟩) hHeld ?_
  rotate_left
  · (intro w hSw; (try dsimp only at hSw); go_simp <;> with_reducible rfl)
  try simp only [Act.put, List.setIfInBounds_toArray, List.set_cons_zero, List.set_cons_succ]
  -- 1: t7 := nilCheck t6 : 0
  refine wpB_take (i := 1) (v := ?_) (get_of_drop rfl) (by kernel_rfl) (by kernel_rfl) (by kernel_rfl) (by kernel_rfl) (fun _ _ _ h => h) (Or.inl ⟨by rfl, ?_⟩) hHeld ?_
  rotate_left
  · (intro w hSw; (try dsimp only at hSw); go_simp <;> with_reducible rfl)
  try simp only [Act.put, List.setIfInBounds_toArray, List.set_cons_zero, List.set_cons_succ]
  -- 2: t8 := fieldAddr 100 t7 1 : 0
  refine wpB_take (i := 2) (v := ?_) (get_of_drop rfl) (by kernel_rfl) (by kernel_rfl) (by kernel_rfl) (by kernel_rfl) (fun _ _ _ h => h) (Or.inl ⟨by rfl, ?_⟩) hHeld ?_
  rotate_left
  · (intro w hSw; (try dsimp only at hSw); go_simp <;> with_reducible rfl)
  try simp only [Act.put, List.setIfInBounds_toArray, List.set_cons_zero, List.set_cons_succ]
  -- 3: t9 := fieldAddr 26 t8 0 : 0
  refine wpB_take (i := 3) (v := ?_) (get_of_drop rfl) (by kernel_rfl) (by kernel_rfl) (by kernel_rfl) (by kernel_rfl) (fun _ _ _ h => h) (Or.inl ⟨by rfl, ?_⟩) hHeld ?_
  rotate_left
  · (intro w hSw; (try dsimp only at hSw); go_simp <;> with_reducible rfl)
  try simp only [Act.put, List.setIfInBounds_toArray, List.set_cons_zero, List.set_cons_succ]
  -- 4: t10 := load 3 t9 : 3
  refine wpB_take (i := 4) (v := ?_) (get_of_drop rfl) (by kernel_rfl) (by kernel_rfl) (by kernel_rfl) (by kernel_rfl) (fun _ _ _ h => h) (Or.inl ⟨by rfl, ?_⟩) hHeld ?_
  rotate_left
  · (intro w hSw; (try dsimp only at hSw); go_simp <;> with_reducible rfl)
  try simp only [Act.put, List.setIfInBounds_toArray, List.set_cons_zero, List.set_cons_succ]
  -- 5: t11 := move t0 : 30
  refine wpB_take (i := 5) (v := ?_) (get_of_drop rfl) (by kernel_rfl) (by kernel_rfl) (by kernel_rfl) (by kernel_rfl) (fun _ _ _ h => h) (Or.inl ⟨by rfl, ?_⟩) hHeld ?_
  rotate_left
  · (intro w hSw; (try dsimp only at hSw); go_simp <;> with_reducible rfl)
  try simp only [Act.put, List.setIfInBounds_toArray, List.set_cons_zero, List.set_cons_succ]
  -- 6: t12 := nilCheck t11 : 0
  refine wpB_take (i := 6) (v := ?_) (get_of_drop rfl) (by kernel_rfl) (by kernel_rfl) (by kernel_rfl) (by kernel_rfl) (fun _ _ _ h => h) (Or.inl ⟨by rfl, ?_⟩) hHeld ?_
  rotate_left
  · (intro w hSw; (try dsimp only at hSw); go_simp <;> with_reducible rfl)
  try simp only [Act.put, List.setIfInBounds_toArray, List.set_cons_zero, List.set_cons_succ]
  -- 7: t13 := fieldAddr 100 t12 0 : 0
  refine wpB_take (i := 7) (v := ?_) (get_of_drop rfl) (by kernel_rfl) (by kernel_rfl) (by kernel_rfl) (by kernel_rfl) (fun _ _ _ h => h) (Or.inl ⟨by rfl, ?_⟩) hHeld ?_
  rotate_left
  · (intro w hSw; (try dsimp only at hSw); go_simp <;> with_reducible rfl)
  try simp only [Act.put, List.setIfInBounds_toArray, List.set_cons_zero, List.set_cons_succ]
  -- 8: t14 := fieldAddr 23 t13 1 : 0
  refine wpB_take (i := 8) (v := ?_) (get_of_drop rfl) (by kernel_rfl) (by kernel_rfl) (by kernel_rfl) (by kernel_rfl) (fun _ _ _ h => h) (Or.inl ⟨by rfl, ?_⟩) hHeld ?_
  rotate_left
  · (intro w hSw; (try dsimp only at hSw); go_simp <;> with_reducible rfl)
  try simp only [Act.put, List.setIfInBounds_toArray, List.set_cons_zero, List.set_cons_succ]
  -- 9: t15 := load 3 t14 : 3
  refine wpB_take (i := 9) (v := ?_) (get_of_drop rfl) (by kernel_rfl) (by kernel_rfl) (by kernel_rfl) (by kernel_rfl) (fun _ _ _ h => h) (Or.inl ⟨by rfl, ?_⟩) hHeld ?_
  rotate_left
  · (intro w hSw; (try dsimp only at hSw); go_simp <;> with_reducible rfl)
  try simp only [Act.put, List.setIfInBounds_toArray, List.set_cons_zero, List.set_cons_succ]
  -- 10: t16 := move t1 : 3
  refine wpB_take (i := 10) (v := ?_) (get_of_drop rfl) (by kernel_rfl) (by kernel_rfl) (by kernel_rfl) (by kernel_rfl) (fun _ _ _ h => h) (Or.inl ⟨by rfl, ?_⟩) hHeld ?_
  rotate_left
  · (intro w hSw; (try dsimp only at hSw); go_simp <;> with_reducible rfl)
  try simp only [Act.put, List.setIfInBounds_toArray, List.set_cons_zero, List.set_cons_succ]
  -- 11: t17 := fieldAddr 41 t5 7 : 0
  refine wpB_take (i := 11) (v := ?_) (get_of_drop rfl) (by kernel_rfl) (by kernel_rfl) (by kernel_rfl) (by kernel_rfl) (fun _ _ _ h => h) (Or.inl ⟨by rfl, ?_⟩) hHeld ?_
  rotate_left
  · (intro w hSw; (try dsimp only at hSw); go_simp <;> with_reducible rfl)
  try simp only [Act.put, List.setIfInBounds_toArray, List.set_cons_zero, List.set_cons_succ]
  -- 12: t18 := load 24 t17 : 24
  refine wpB_act (i := 12) (by kernel_rfl) (get_of_drop rfl) (fun K hK => ?_)
  go_simp
  refine hK.out _ _ ?_ (fun hHeld2 => ?_)
  · (first | assumption | (with_reducible exact HKZ.out) | (exact HKZ.out.set (fun _ => rfl) _) | (exact (HKZ.out.set (fun _ => rfl) _).set (fun _ => rfl) _) | (exact ((HKZ.out.set (fun _ => rfl) _).set (fun _ => rfl) _).set (fun _ => rfl) _) | (exact (((HKZ.out.set (fun _ => rfl) _).set (fun _ => rfl) _).set (fun _ => rfl) _).set (fun _ => rfl) _))
  clear hHeld hK K
  have hHeld := hHeld2
  clear hHeld2
  try simp only [Act.put, List.setIfInBounds_toArray, List.set_cons_zero, List.set_cons_succ]
  -- 14: t20 := fieldAddr 41 t5 1 : 0
  refine wpB_take (i := 14) (v := ?_) (get_of_drop rfl) (by kernel_rfl) (by kernel_rfl) (by kernel_rfl) (by kernel_rfl) (fun _ _ _ h => h) (Or.inl ⟨by rfl, ?_⟩) hHeld ?_
  rotate_left
  · (intro w hSw; (try dsimp only at hSw); go_simp <;> with_reducible rfl)
  try simp only [Act.put, List.setIfInBounds_toArray, List.set_cons_zero, List.set_cons_succ]
  -- 13: t19 := CALL fn47(t18) : 24
  refine wpB_act (i := 13) (by kernel_rfl) (get_of_drop rfl) (fun K hK => ?_)
  go_simp
  refine (rcopied_any (HM.out.chg HD.out (fun _ _ h => h)) hk HF.out).mono ?_
  rintro e' wy ⟨B2, d2, rfl, hat, hcy⟩
  have HV := hid hat
  have HZ := hid (show Chg (fun _ => False) w1 wy from HD.out.trans hcy (fun _ h _ => h))
  have HKZ := hid (show Chg (fun k => k = b) w1 wy from HZ.out.mono (fun _ h _ => h.elim))
  have BY := hid (HZ.out.blk BX.out (fun h => h))
  have y1 : wy.cell? ⟨b, 1, none⟩ = some (.int .i64 m.view) := (cellAt BY.out 1).trans rfl
  have y2 : wy.cell? ⟨b, 2, none⟩ = some (.int .i64 m.src) := (cellAt BY.out 2).trans rfl
  have y3 : wy.cell? ⟨b, 3, none⟩ = some (.int .i64 m.dst) := (cellAt BY.out 3).trans rfl
  have y7 : wy.cell? ⟨b, 7, none⟩ = some (.slice B k d) := (cellAt BY.out 7).trans rfl
  have f1 : wy.frozen? ⟨b, 1, none⟩ = false := freeAt BY.out 1
  have f2 : wy.frozen? ⟨b, 2, none⟩ = false := freeAt BY.out 2
  have f3 : wy.frozen? ⟨b, 3, none⟩ = false := freeAt BY.out 3
  have f7 : wy.frozen? ⟨b, 7, none⟩ = false := freeAt BY.out 7
  clear hcy hat x7
  refine hK.out _ _ ?_ (fun hHeld2 => ?_)
  · (first | assumption | (with_reducible exact HKZ.out) | (exact HKZ.out.set (fun _ => rfl) _) | (exact (HKZ.out.set (fun _ => rfl) _).set (fun _ => rfl) _) | (exact ((HKZ.out.set (fun _ => rfl) _).set (fun _ => rfl) _).set (fun _ => rfl) _) | (exact (((HKZ.out.set (fun _ => rfl) _).set (fun _ => rfl) _).set (fun _ => rfl) _).set (fun _ => rfl) _))
  clear hHeld hK K
  have hHeld := hHeld2
  clear hHeld2
  try simp only [Act.put, List.setIfInBounds_toArray, List.set_cons_zero, List.set_cons_succ]
  -- 15: t- := store 3 t20 t10 : 0
  refine wpB_act (i := 15) (by kernel_rfl) (get_of_drop rfl) (fun K hK => ?_)
  go_simp
  refine hK.out _ _ ?_ (fun hHeld2 => ?_)
  · (first | assumption | (with_reducible exact HKZ.out) | (exact HKZ.out.set (fun _ => rfl) _) | (exact (HKZ.out.set (fun _ => rfl) _).set (fun _ => rfl) _) | (exact ((HKZ.out.set (fun _ => rfl) _).set (fun _ => rfl) _).set (fun _ => rfl) _) | (exact (((HKZ.out.set (fun _ => rfl) _).set (fun _ => rfl) _).set (fun _ => rfl) _).set (fun _ => rfl) _))
  clear hHeld hK K
  have hHeld := hHeld2
  clear hHeld2
  try simp only [Act.put, List.setIfInBounds_toArray, List.set_cons_zero, List.set_cons_succ]
  -- 16: t21 := fieldAddr 41 t5 2 : 0
  refine wpB_take (i := 16) (v := ?_) (get_of_drop rfl) (by kernel_rfl) (by kernel_rfl) (by kernel_rfl) (by kernel_rfl) (fun _ _ _ h => h) (Or.inl ⟨by rfl, ?_⟩) hHeld ?_
  rotate_left
  · (intro w hSw; (try dsimp only at hSw); go_simp <;> with_reducible rfl)
  try simp only [Act.put, List.setIfInBounds_toArray, List.set_cons_zero, List.set_cons_succ]
  -- 17: t- := store 3 t21 t15 : 0
  refine wpB_act (i := 17) (by kernel_rfl) (get_of_drop rfl) (fun K hK => ?_)
  go_simp
  refine hK.out _ _ ?_ (fun hHeld2 => ?_)
  · (first | assumption | (with_reducible exact HKZ.out) | (exact HKZ.out.set (fun _ => rfl) _) | (exact (HKZ.out.set (fun _ => rfl) _).set (fun _ => rfl) _) | (exact ((HKZ.out.set (fun _ => rfl) _).set (fun _ => rfl) _).set (fun _ => rfl) _) | (exact (((HKZ.out.set (fun _ => rfl) _).set (fun _ => rfl) _).set (fun _ => rfl) _).set (fun _ => rfl) _))
  clear hHeld hK K
  have hHeld := hHeld2
  clear hHeld2
  try simp only [Act.put, List.setIfInBounds_toArray, List.set_cons_zero, List.set_cons_succ]
  -- 18: t22 := fieldAddr 41 t5 3 : 0
  refine wpB_take (i := 18) (v := ?_) (get_of_drop rfl) (by kernel_rfl) (by kernel_rfl) (by kernel_rfl) (by kernel_rfl) (fun _ _ _ h => h) (Or.inl ⟨by rfl, ?_⟩) hHeld ?_
  rotate_left
  · (intro w hSw; (try dsimp only at hSw); go_simp <;> with_reducible rfl)
  try simp only [Act.put, List.setIfInBounds_toArray, List.set_cons_zero, List.set_cons_succ]
  -- 19: t- := store 3 t22 t16 : 0 (BARRIER)
  refine wpB_bar (i := 19) (by kernel_rfl) (get_of_drop rfl) (by kernel_rfl) (fun K hK => ?_)
  go_simp
  refine hK.out _ _ (fun _ : World => True) ?_
  clear hHeld hK K
  have hHeld := trivial
  try simp only [Act.put, List.setIfInBounds_toArray, List.set_cons_zero, List.set_cons_succ]
  -- 20: t23 := fieldAddr 41 t5 7 : 0
  refine wpB_take (i := 20) (v := ?_) (get_of_drop rfl) (by kernel_rfl) (by kernel_rfl) (by kernel_rfl) (by kernel_rfl) (fun _ _ _ h => h) (Or.inl ⟨by rfl, ?_⟩) hHeld ?_
  rotate_left
  · (intro w hSw; (try dsimp only at hSw); go_simp <;> with_reducible rfl)
  try simp only [Act.put, List.setIfInBounds_toArray, List.set_cons_zero, List.set_cons_succ]
  -- 21: t- := store 24 t23 t19 : 0 (BARRIER)
  refine wpB_bar (i := 21) (by kernel_rfl) (get_of_drop rfl) (by kernel_rfl) (fun K hK => ?_)
  go_simp
  refine hK.out _ _ (fun _ : World => True) ?_
  clear hHeld hK K
  have hHeld := trivial
  try simp only [Act.put, List.setIfInBounds_toArray, List.set_cons_zero, List.set_cons_succ]
  refine wpB_done (by kernel_rfl) ?_ _
  obtain ⟨W2, hW2⟩ : ∃ q_, q_ = ((((wy.setCell ⟨b, 1, none⟩ (.int .i64 r.s.view)).setCell ⟨b, 2, none⟩ (.int .i64 r.id)).setCell ⟨b, 3, none⟩ (.int .i64 y)).setCell ⟨b, 7, none⟩ (.slice B2 k d2)) := ⟨_, rfl⟩
  rw [← hW2]
  have K2 := hid (show Chg (fun k => k = b) wy W2 by rw [hW2]; exact ((((Chg.refl (fun k => k = b) wy).set (fun _ => rfl) _).set (fun _ => rfl) _).set (fun _ => rfl) _).set (fun _ => rfl) _)
  have BX2 := hid (show W2.heap[b]? = some (.cells #[.int .i64 m.kind, .int .i64 r.s.view, .int .i64 r.id, .int .i64 y, .int .i64 m.op, .int .i64 m.commit, .int .i64 m.normal, .slice B2 k d2] 41 (0, 0)) by rw [hW2]; exact blk_set (blk_set (blk_set (blk_set BY.out 1 _) 2 _) 3 _) 7 _)
  have C2 := hid (show Chg (fun _ => False) w W2 from (C1.out.trans HZ.out (fun _ h _ => h)).trans K2.out (fun j hj hl => by have := HBb.out; omega))
  have H2 := hid (H.out.far C2.out)
  have BP2 := hid H2.out.blk
  have HOB := hid H.out.outB
  have HOp : ¬ O.ownBlock = some p := fun e => by have h1 := (HOB.out p e).1; have h2 := H.out.lt.1; omega
  have HOb : ¬ O.ownBlock = some b := fun e => by have h1 := (HOB.out b e).2; have h2 := HBb.out; omega
  have HV2 := hid (show Ty.At entryK W2 (fun j => w1.drew.heap.size ≤ j) B2 k d2 m.log from (HV.out.at.mono (fun j hj => by rcases hj with h | h <;> exact h)).chg K2.out (fun j hj e => by have h1 := HSZ.out; have h2 : w1.heap.size ≤ j := hj; omega))
  clear hW2 y1 y2 y3 y7 f1 f2 f3 f7 U_1 U_3
  have U_14 : ∀ wx, Chg (fun k => O.ownBlock = some k) W2 wx → wx.cell? ⟨p, 14, none⟩ = some O := fun wx hx => (cellAt (hx.blk BP2.out HOp) 14).trans rfl
  have X_0 : ∀ wx, Chg (fun k => O.ownBlock = some k) W2 wx → wx.cell? ⟨b, 0, none⟩ = some (.int .i64 m.kind) := fun wx hx => (cellAt (hx.blk BX2.out HOb) 0).trans rfl
  have X_1 : ∀ wx, Chg (fun k => O.ownBlock = some k) W2 wx → wx.cell? ⟨b, 1, none⟩ = some (.int .i64 r.s.view) := fun wx hx => (cellAt (hx.blk BX2.out HOb) 1).trans rfl
  have X_2 : ∀ wx, Chg (fun k => O.ownBlock = some k) W2 wx → wx.cell? ⟨b, 2, none⟩ = some (.int .i64 r.id) := fun wx hx => (cellAt (hx.blk BX2.out HOb) 2).trans rfl
  have X_3 : ∀ wx, Chg (fun k => O.ownBlock = some k) W2 wx → wx.cell? ⟨b, 3, none⟩ = some (.int .i64 y) := fun wx hx => (cellAt (hx.blk BX2.out HOb) 3).trans rfl
  have X_4 : ∀ wx, Chg (fun k => O.ownBlock = some k) W2 wx → wx.cell? ⟨b, 4, none⟩ = some (.int .i64 m.op) := fun wx hx => (cellAt (hx.blk BX2.out HOb) 4).trans rfl
  have X_5 : ∀ wx, Chg (fun k => O.ownBlock = some k) W2 wx → wx.cell? ⟨b, 5, none⟩ = some (.int .i64 m.commit) := fun wx hx => (cellAt (hx.blk BX2.out HOb) 5).trans rfl
  have X_6 : ∀ wx, Chg (fun k => O.ownBlock = some k) W2 wx → wx.cell? ⟨b, 6, none⟩ = some (.int .i64 m.normal) := fun wx hx => (cellAt (hx.blk BX2.out HOb) 6).trans rfl
  have X_7 : ∀ wx, Chg (fun k => O.ownBlock = some k) W2 wx → wx.cell? ⟨b, 7, none⟩ = some (.slice B2 k d2) := fun wx hx => (cellAt (hx.blk BX2.out HOb) 7).trans rfl
  go_wp2_with fail
  have HD2 := hid ((Chg.refl (fun _ => False) W2).drew)
  refine wpB_start (fun wx : World => Chg (fun k => O.ownBlock = some k) W2 wx) (by kernel_rfl) ?_
  have hHeld : (fun wx : World => Chg (fun k => O.ownBlock = some k) W2 wx) _ := (Chg.refl (fun k => O.ownBlock = some k) W2).drew
  -- 0: t24 := move t0 : 30
  refine wpB_take (i := 0) (v := ?_) (get_of_drop rfl) (by kernel_rfl) (by kernel_rfl) (by kernel_rfl) (by kernel_rfl) (fun _ _ _ h => h) (Or.inl ⟨by rfl, ?_⟩) hHeld ?_
  rotate_left
  · (intro w hSw; (try dsimp only at hSw); go_simp <;> with_reducible rfl)
  try simp only [Act.put, List.setIfInBounds_toArray, List.set_cons_zero, List.set_cons_succ]
  -- 1: t25 := move t0 : 30
  refine wpB_take (i := 1) (v := ?_) (get_of_drop rfl) (by kernel_rfl) (by kernel_rfl) (by kernel_rfl) (by kernel_rfl) (fun _ _ _ h => h) (Or.inl ⟨by rfl, ?_⟩) hHeld ?_
  rotate_left
  · (intro w hSw; (try dsimp only at hSw); go_simp <;> with_reducible rfl)
  try simp only [Act.put, List.setIfInBounds_toArray, List.set_cons_zero, List.set_cons_succ]
  -- 2: t26 := nilCheck t25 : 0
  refine wpB_take (i := 2) (v := ?_) (get_of_drop rfl) (by kernel_rfl) (by kernel_rfl) (by kernel_rfl) (by kernel_rfl) (fun _ _ _ h => h) (Or.inl ⟨by rfl, ?_⟩) hHeld ?_
  rotate_left
  · (intro w hSw; (try dsimp only at hSw); go_simp <;> with_reducible rfl)
  try simp only [Act.put, List.setIfInBounds_toArray, List.set_cons_zero, List.set_cons_succ]
  -- 3: t27 := fieldAddr 100 t26 8 : 0
  refine wpB_take (i := 3) (v := ?_) (get_of_drop rfl) (by kernel_rfl) (by kernel_rfl) (by kernel_rfl) (by kernel_rfl) (fun _ _ _ h => h) (Or.inl ⟨by rfl, ?_⟩) hHeld ?_
  rotate_left
  · (intro w hSw; (try dsimp only at hSw); go_simp <;> with_reducible rfl)
  try simp only [Act.put, List.setIfInBounds_toArray, List.set_cons_zero, List.set_cons_succ]
  -- 4: t28 := load 27 t27 : 27
  refine wpB_take (i := 4) (v := ?_) (get_of_drop rfl) (by kernel_rfl) (by kernel_rfl) (by kernel_rfl) (by kernel_rfl) (fun _ _ _ h => h) (Or.inl ⟨by rfl, ?_⟩) hHeld ?_
  rotate_left
  · (intro w hSw; (try dsimp only at hSw); go_simp <;> with_reducible rfl)
  try simp only [Act.put, List.setIfInBounds_toArray, List.set_cons_zero, List.set_cons_succ]
  -- 5: t29 := load 41 t5 : 41
  refine wpB_take (i := 5) (v := ?_) (get_of_drop rfl) (by kernel_rfl) (by kernel_rfl) (by kernel_rfl) (by kernel_rfl) (fun _ _ _ h => h) (Or.inl ⟨by rfl, ?_⟩) hHeld ?_
  rotate_left
  · (intro w hSw; (try dsimp only at hSw); go_simp <;> with_reducible rfl)
  try simp only [Act.put, List.setIfInBounds_toArray, List.set_cons_zero, List.set_cons_succ]
  -- 6: t30 := buildSlice 27 1 [⟨0, t29⟩] : 27
  refine wpB_act (i := 6) (by kernel_rfl) (get_of_drop rfl) (fun K hK => ?_)
  go_simp
  obtain ⟨wl, hwl⟩ : ∃ q_, q_ = (W2.alloc (.cells #[.int .i64 m.kind, .int .i64 r.s.view, .int .i64 r.id, .int .i64 y, .int .i64 m.op, .int .i64 m.commit, .int .i64 m.normal, .slice B2 k d2] 41)).drew := ⟨_, rfl⟩
  rw [← hwl]
  have HL := hid (show Chg (fun _ => False) W2 wl by rw [hwl]; exact ((Chg.refl _ W2).alloc _).drew)
  have HKL := hid (show Chg (fun k => O.ownBlock = some k) W2 wl from HL.out.mono (fun _ h _ => h.elim))
  have HSE := hid (show Sees wl (fun k => k = W2.heap.size) (some ⟨W2.heap.size, 0, none⟩) [.int .i64 m.kind, .int .i64 r.s.view, .int .i64 r.id, .int .i64 y, .int .i64 m.op, .int .i64 m.commit, .int .i64 m.normal, .slice B2 k d2] by rw [hwl]; exact new_sees W2 #[.int .i64 m.kind, .int .i64 r.s.view, .int .i64 r.id, .int .i64 y, .int .i64 m.op, .int .i64 m.commit, .int .i64 m.normal, .slice B2 k d2] 41)
  have HOV := hid (show Vec msgK 41 wl (fun k => O.ownBlock = some k) (fun k => w0.heap.size ≤ k) O r.out from (by obtain ⟨cells, q1, q2, q3⟩ := H2.out.out.chg HL.out (fun _ _ h => h) (fun _ _ _ _ h => h); exact ⟨cells, q1, fun k hk => hk, q3⟩))
  have HMS := hid (show msgK.K wl (fun j => w0.heap.size ≤ j ∧ O.ownBlock ≠ some j ∧ j < wl.heap.size) { m with view := r.s.view, src := r.id, dst := y } [.int .i64 m.kind, .int .i64 r.s.view, .int .i64 r.id, .int .i64 y, .int .i64 m.op, .int .i64 m.commit, .int .i64 m.normal, .slice B2 k d2] from msg_shut ⟨HW.out.1, HRW.out.1, HRW.out.2.1, HRW.out.2.2, HW.out.2.1, HW.out.2.2.1, HW.out.2.2.2⟩ ((HV2.out.chg HL.out (fun _ _ h => h)).bound.mono (fun j hj => by
    have h1 : w1.heap.size ≤ j := hj.1
    have h2 := HSZ.out
    have h3 := HBb.out
    have h4 := H.out.sz
    exact ⟨by omega, fun e => by have := (HOB.out j e).2; omega, hj.2⟩)))
  clear hwl
  refine hK.out _ _ ?_ (fun hHeld2 => ?_)
  · (first | assumption | (with_reducible exact HKL.out) | (with_reducible exact HKV.out))
  clear hHeld hK K
  have hHeld := hHeld2
  clear hHeld2
  try simp only [Act.put, List.setIfInBounds_toArray, List.set_cons_zero, List.set_cons_succ]
  -- 7: t31 := append(t28, t30) types [27, 27] : 27
  refine wpB_act (i := 7) (by kernel_rfl) (get_of_drop rfl) (fun K hK => ?_)
  refine vec_step (d := msgK) _ rfl (.tmp 28) (.tmp 30) 27 41 (.agg #[.int .i64 0, .int .i64 0, .int .i64 0, .int .i64 0, .int .i64 0, .int .i64 0, .int .i64 0, .slice none 0 0]) 80 rfl Try.underlying27 infoMsgP rfl (by decide) (by decide) O rfl HOV.out (some ⟨W2.heap.size, 0, none⟩) 1 1 (ys := [{ m with view := r.s.view, src := r.id, dst := y }]) rfl (by simp) (by omega) rfl HSE.out (Ty.Row.one_ HMS.out) (by have := HO.out; omega) ?_
  intro A' c' w5 h1 h2
  have HV5 := hid h1
  have HKV := hid (show Chg (fun k => O.ownBlock = some k) W2 w5 from HKL.out.trans h2 (fun _ h _ => h))
  have BP5 := hid (HKV.out.blk BP2.out HOp)
  have z14 : w5.cell? ⟨p, 14, none⟩ = some O := (cellAt BP5.out 14).trans rfl
  have f14 : w5.frozen? ⟨p, 14, none⟩ = false := freeAt BP5.out 14
  clear h1 h2
  refine hK.out _ _ ?_ (fun hHeld2 => ?_)
  · (first | assumption | (with_reducible exact HKL.out) | (with_reducible exact HKV.out))
  clear hHeld hK K
  have hHeld := hHeld2
  clear hHeld2
  try simp only [Act.put, List.setIfInBounds_toArray, List.set_cons_zero, List.set_cons_succ]
  -- 8: t32 := nilCheck t24 : 0
  refine wpB_take (i := 8) (v := ?_) (get_of_drop rfl) (by kernel_rfl) (by kernel_rfl) (by kernel_rfl) (by kernel_rfl) (fun _ _ _ h => h) (Or.inl ⟨by rfl, ?_⟩) hHeld ?_
  rotate_left
  · (intro w hSw; (try dsimp only at hSw); go_simp <;> with_reducible rfl)
  try simp only [Act.put, List.setIfInBounds_toArray, List.set_cons_zero, List.set_cons_succ]
  -- 9: t33 := fieldAddr 100 t32 8 : 0
  refine wpB_take (i := 9) (v := ?_) (get_of_drop rfl) (by kernel_rfl) (by kernel_rfl) (by kernel_rfl) (by kernel_rfl) (fun _ _ _ h => h) (Or.inl ⟨by rfl, ?_⟩) hHeld ?_
  rotate_left
  · (intro w hSw; (try dsimp only at hSw); go_simp <;> with_reducible rfl)
  try simp only [Act.put, List.setIfInBounds_toArray, List.set_cons_zero, List.set_cons_succ]
  -- 10: t- := store 27 t33 t31 : 0 (BARRIER)
  refine wpB_bar (i := 10) (by kernel_rfl) (get_of_drop rfl) (by kernel_rfl) (fun K hK => ?_)
  go_simp
  refine hK.out _ _ (fun _ : World => True) ?_
  clear hHeld hK K
  have hHeld := trivial
  try simp only [Act.put, List.setIfInBounds_toArray, List.set_cons_zero, List.set_cons_succ]
  refine wpB_done (by kernel_rfl) ?_ _
  go_end0
  have hc := (Chg.refl (fun k => k = p) w5).set (p := ⟨p, 14, none⟩) (fun _ => rfl) (.slice A' (r.out.length + 1) c')
  have hbb := blk_set BP5.out 14 (.slice A' (r.out.length + 1) c')
  have hsz : w.heap.size ≤ wl.heap.size := Nat.le_trans C2.out.size HL.out.size
  have hown : ∀ j, (Value.slice A' (r.out.length + 1) c').ownBlock = some j → O.ownBlock = some j ∨ w.heap.size ≤ j := fun j hj => by
    rcases HV5.out.inS j hj with h | h
    · exact .inl h
    · exact .inr (Nat.le_trans hsz h)
  have CK : Chg (fun j => O.ownBlock = some j) w w5 := (C2.out.mono (S' := fun j => O.ownBlock = some j) (fun _ h _ => h.elim)).trans HKV.out (fun j hj _ => hj)
  have CW : Chg (fun j => j = p ∨ O.ownBlock = some j) w (w5.setCell ⟨p, 14, none⟩ (.slice A' (r.out.length + 1) c')) := (CK.mono (S' := fun j => j = p ∨ O.ownBlock = some j) (fun _ h _ => .inr h)).trans hc (fun j hj _ => .inl hj)
  obtain ⟨V, h3, h4⟩ := H.out.chgs
  have hn := H.out.nep
  have hlt := H.out.lt
  have hsz0 := H.out.sz
  have hOB := HOB.out
  have hmv : ∀ q, q < w0.heap.size → q ≠ p → ¬ (q = p ∨ O.ownBlock = some q) := fun q h1 h2 e => by rcases e with e | e; exact h2 e; have := (hOB q e).1; omega
  have hl : ∀ q, Lg X O q → ¬ (q = p ∨ O.ownBlock = some q) := fun q hq e => by rcases e with e | e; exact hq.1 (H.out.sub.1 _ (.inl e)); exact hq.2 e
  have hl2 : ∀ q, Lg X O q ∧ q < w.heap.size → Lg X (.slice A' (r.out.length + 1) c') q := fun q hq => ⟨hq.1.1, fun e => by rcases hown q e with h | h; exact hq.1.2 h; have := hq.2; omega⟩
  have hop : ∀ q, w0.heap.size ≤ q → ¬ q = p := fun q hq e => by have := hlt.1; omega
  refine ⟨_, rfl, ⟨Nat.le_trans H.out.sz CW.size, hlt, H.out.ne, H.out.sub, hbb, H.out.acks.chg CW (hmv _ hlt.2.1 hn.1), H.out.starts.chg CW (hmv _ hlt.2.2.1 hn.2.1), ⟨V, h3.chg CW (hmv _ hlt.2.2.2 hn.2.2), (h4.bound.chg CW (fun q hq => hl q hq.1)).mono hl2⟩, (H.out.log.bound.chg CW (fun q hq => hl q hq.1)).mono hl2, ?_⟩, hown, CW⟩
  refine (HV5.out.chg hc (fun q hq => hop q ?_) (fun q hq _ _ => hop q hq)).mono (fun q hq _ => ?_) (fun _ h _ => h)
  · rcases HV5.out.inS q hq with h | h
    · exact (hOB q h).1
    · omega
  · rcases hq with h | h
    · exact (hOB q h).1
    · omega
end Go.Proofs.Ytaldoajdhbndhaa.Pa


/- say. -/

namespace Go.Proofs.Ytaldoajdhbndhaa.Pa

set_option linter.unusedVariables false

set_option linter.unusedSimpArgs false

open Go.RowKit Go.Proofs.Ytaldoajdhbndhaa.C

attribute [local go_sem] max2_int min2_int max_two min_two

set_option maxHeartbeats 4000000 in
set_option maxRecDepth 100000 in
theorem say_any {w0 w : World} {p b1 b2 b3 : Nat} {X : Nat → Prop} {r : Rp} {A : Option Addr} {n c : Nat} {O : Value} (h : Rep w0 w p b1 b2 b3 X r A n c O) {m : Msg} {R : Nat → Prop} {B : Option Addr} {k d : Nat} (hc : r.n = 3 ∨ r.n = 5 ∨ r.n = 7) (hm : Ty.At entryK w R B k d m.log) (hR : ∀ j, R j → j < w.heap.size → ¬ (j = p ∨ O.ownBlock = some j)) (hk : k ≤ 1000000) (hf : Fits m.log) (hw : NumW m.kind ∧ NumW m.op ∧ NumW m.commit ∧ NumW m.normal) (hr : NumW r.s.view ∧ NumW r.id) (ho : r.out.length ≤ 900) :
    Calls Try.prog 78 #[.pointer (some ⟨p, 0, none⟩), .agg #[.int .i64 m.kind, .int .i64 m.view, .int .i64 m.src, .int .i64 m.dst, .int .i64 m.op, .int .i64 m.commit, .int .i64 m.normal, .slice B k d]] w (Said w0 w p b1 b2 b3 X (sayR r m) A n c O) := by
  have H := hid h
  have HPB := hid (lt_of_blk h.blk)
  obtain ⟨w1, hw1⟩ : ∃ q_, q_ = (w.alloc (.cells #[.int .i64 m.kind, .int .i64 m.view, .int .i64 m.src, .int .i64 m.dst, .int .i64 m.op, .int .i64 m.commit, .int .i64 m.normal, .slice B k d] 41)) := ⟨_, rfl⟩
  have C1 := hid (show Chg (fun _ => False) w w1 by rw [hw1]; exact (Chg.refl _ w).alloc _)
  have BX := hid (show w1.heap[w.heap.size]? = some (.cells #[.int .i64 m.kind, .int .i64 m.view, .int .i64 m.src, .int .i64 m.dst, .int .i64 m.op, .int .i64 m.commit, .int .i64 m.normal, .slice B k d] 41 (0, 0)) by
    rw [hw1]
    have := blk_new w (.cells #[.int .i64 m.kind, .int .i64 m.view, .int .i64 m.src, .int .i64 m.dst, .int .i64 m.op, .int .i64 m.commit, .int .i64 m.normal, .slice B k d] 41)
    simpa using this)
  have SZ := hid (show w1.heap.size = w.heap.size + 1 by rw [hw1]; simp)
  have H1 := hid (h.far C1.out)
  have BP := hid H1.out.blk
  have HM := hid (hm.bound.chg C1.out (fun _ _ h => h))
  have HR := hid hR
  have HF := hid hf
  have HW := hid hw
  have HRW := hid hr
  have HO := hid ho
  have HC := hid hc
  obtain ⟨b, hb⟩ : ∃ q_, q_ = w.heap.size := ⟨_, rfl⟩
  have HBb := hid hb
  replace BX := hid (show w1.heap[b]? = some (.cells #[.int .i64 m.kind, .int .i64 m.view, .int .i64 m.src, .int .i64 m.dst, .int .i64 m.op, .int .i64 m.commit, .int .i64 m.normal, .slice B k d] 41 (0, 0)) by rw [hb]; exact BX.out)
  have HSZ := hid (show w1.heap.size = b + 1 by rw [hb]; exact SZ.out)
  have HOB := hid h.outB
  have HNB := hid (show ¬ (b = p ∨ O.ownBlock = some b) from fun e => by rcases e with e | e; have := HPB.out; omega; have := (HOB.out b e).2; omega)
  obtain ⟨N, hN⟩ : ∃ N : Nat, N = r.n.toNat := ⟨_, rfl⟩
  have hN2 : r.n = (N : Int) := by rcases hc with h | h | h <;> omega
  have hN7 : N ≤ 7 := by rcases hc with h | h | h <;> omega
  have HN := hid hN
  have P_0 : w.cell? ⟨p, 0, none⟩ = some (.int .i64 (N : Int)) := by rw [← hN2]; exact (cellAt h.blk 0).trans rfl
  have hpw := HPB.out
  have hpn : p ≠ w.heap.size := by omega
  clear h hm hf hw hr ho hR hc hN
  go_enter Try.func78, Try.ntmps78
  go_wp2_with fail
  rw [← hw1, ← hb]
  clear hw1 hb SZ
  clear P_0 hpn hpw
  go_loopw [10] (fun i wr => ∃ k : Nat, ∃ O' : Value, k ≤ N ∧ i = .int .i64 k ∧ Rep w0 wr p b1 b2 b3 X (sayTo r m k) A n c O' ∧ (∀ j, O'.ownBlock = some j → O.ownBlock = some j ∨ w1.heap.size ≤ j) ∧ Chg (fun j => j = p ∨ O.ownBlock = some j) w1 wr) (fun i _ => N - (intOf i).toNat)
  case atStart => exact ⟨0, O, Nat.zero_le _, rfl, H1.out, fun j h => .inl h, Chg.refl _ _⟩
  case round =>
    obtain ⟨q, O', hq, rfl, hrep, hO, hC⟩ := hrel
    have HQ := hid hrep
    have HOO := hid hO
    have HCC := hid hC
    have BQ := hid hrep.blk
    have BXQ := hid (hC.blk BX.out HNB.out)
    obtain ⟨l, hl1, hl2⟩ := sayTo_same r m q
    have HL := hid hl1
    have HL2 := hid hl2
    have e0 : (sayTo r m q).n = (N : Int) := by rw [hl1]; exact hN2
    have e1 : (sayTo r m q).id = r.id := by rw [hl1]
    have P_0 : wr.cell? ⟨p, 0, none⟩ = some (.int .i64 (N : Int)) := by rw [← e0]; exact (cellAt BQ.out 0).trans rfl
    have P_1 : wr.cell? ⟨p, 1, none⟩ = some (.int .i64 r.id) := by rw [← e1]; exact (cellAt BQ.out 1).trans rfl
    clear hrep hO hC hl1 hl2 e0 e1
    by_cases hlt : q < N
    · have hlt2 : (q : Int) < (N : Int) := by omega
      by_cases hne : (q : Int) = r.id
      · have hne2 : ((q : Int) != r.id) = false := by simp [hne]
        have HS := hid (show sayTo r m (q + 1) = sayTo r m q from by rw [sayTo, if_neg (by simp [hne])])
        clear hne
        go_wp2_with fail
        go_roundw
        case measure => simp [intOf]; omega
        case rel => exact ⟨q + 1, O', hlt, by go_num, by rw [HS.out]; exact HQ.out, HOO.out, HCC.out⟩
      · have hne2 : ((q : Int) != r.id) = true := by simp [hne]
        have HS := hid (show sayTo r m (q + 1) = sendR (sayTo r m q) q m from by rw [sayTo, if_pos hne])
        clear hne
        have X_0 : wr.cell? ⟨b, 0, none⟩ = some (.int .i64 m.kind) := (cellAt BXQ.out 0).trans rfl
        have X_1 : wr.cell? ⟨b, 1, none⟩ = some (.int .i64 m.view) := (cellAt BXQ.out 1).trans rfl
        have X_2 : wr.cell? ⟨b, 2, none⟩ = some (.int .i64 m.src) := (cellAt BXQ.out 2).trans rfl
        have X_3 : wr.cell? ⟨b, 3, none⟩ = some (.int .i64 m.dst) := (cellAt BXQ.out 3).trans rfl
        have X_4 : wr.cell? ⟨b, 4, none⟩ = some (.int .i64 m.op) := (cellAt BXQ.out 4).trans rfl
        have X_5 : wr.cell? ⟨b, 5, none⟩ = some (.int .i64 m.commit) := (cellAt BXQ.out 5).trans rfl
        have X_6 : wr.cell? ⟨b, 6, none⟩ = some (.int .i64 m.normal) := (cellAt BXQ.out 6).trans rfl
        have X_7 : wr.cell? ⟨b, 7, none⟩ = some (.slice B k d) := (cellAt BXQ.out 7).trans rfl
        go_wp2_with fail
        refine (send_any HQ.out (HM.out.chg HCC.out (fun j hj => HR.out j hj.1 hj.2)) hk HF.out HW.out ?_ ?_).mono ?_
        · rw [HL.out]
          exact ⟨HRW.out.1, HRW.out.2, by simp [NumW, Lit.wf, IntKind.min, IntKind.max, IntKind.signed, IntKind.bits]; omega⟩
        · rw [HL.out, List.length_append]
          have h1 := HL2.out
          have h2 := HO.out
          omega
        rintro e w2 ⟨O2, rfl, hr2, ho2, hc2⟩
        have HQ2 := hid hr2
        have HO2 := hid (show ∀ j, O2.ownBlock = some j → O.ownBlock = some j ∨ w1.heap.size ≤ j from fun j hj => by
          rcases ho2 j hj with h | h
          · exact HOO.out j h
          · exact .inr (Nat.le_trans HCC.out.size h))
        have HC2 := hid (show Chg (fun j => j = p ∨ O.ownBlock = some j) w1 w2 from HCC.out.trans hc2 (fun j hj hl => by
          rcases hj with h | h
          · exact .inl h
          · rcases HOO.out j h with h | h
            · exact .inr h
            · omega))
        clear hr2 ho2 hc2 X_0 X_1 X_2 X_3 X_4 X_5 X_6 X_7 P_0 P_1
        go_wp2_with fail
        go_roundw
        case measure => simp [intOf]; omega
        case rel => exact ⟨q + 1, O2, hlt, by go_num, by rw [HS.out]; exact HQ2.out, HO2.out, HC2.out⟩
    · have hqn : ¬ (q : Int) < (N : Int) := by omega
      obtain rfl : N = q := by omega
      go_wp2_with fail
      go_end0
      refine ⟨O', rfl, ?_, fun j hj => ?_, ?_⟩
      · unfold sayR; rw [← HN.out]; exact HQ.out
      · rcases HOO.out j hj with h | h
        · exact .inl h
        · exact .inr (Nat.le_trans C1.out.size h)
      · exact (C1.out.mono (S' := fun j => j = p ∨ O.ownBlock = some j) (fun _ h _ => h.elim)).trans HCC.out (fun j hj _ => hj)
end Go.Proofs.Ytaldoajdhbndhaa.Pa


/- told, begin; the maps of a replica. -/

namespace Go.Proofs.Ytaldoajdhbndhaa.Pa

set_option linter.unusedVariables false

set_option linter.unusedSimpArgs false

open Go.RowKit Go.Proofs.Ytaldoajdhbndhaa.C

attribute [local go_sem] max2_int min2_int max_two min_two

instance (u : Int) : Decidable (NumW u) := inferInstanceAs (Decidable (_ = true))
theorem numW_of {u : Int} (h : -1099511627776 ≤ u ∧ u ≤ 1099511627777) : NumW u := by simp [NumW, Lit.wf, IntKind.min, IntKind.max, IntKind.signed, IntKind.bits]; omega
theorem blk_drew {w : World} {g : Nat} {o : Obj} (h : w.heap[g]? = some o) : w.drew.heap[g]? = some o := h
theorem Rep.starts_set {w0 w W : World} {p b1 b2 b3 : Nat} {X : Nat → Prop} {r : Rp} {A : Option Addr} {n c : Nat} {O : Value} (h : Rep w0 w p b1 b2 b3 X r A n c O) (hc : Chg (fun k => k = b2) w W) {k : Int} {v : Bool} (hi : IM W b2 (ups k (.bool v) (r.starts.map (fun q => (q.1, Value.bool q.2))))) : Rep w0 W p b1 b2 b3 X { r with starts := ups k v r.starts } A n c O := by
  obtain ⟨V, h3, h4⟩ := h.chgs
  have hn := h.nep
  have hl : ∀ k, Lg X O k → ¬ k = b2 := fun k hk e => hk.1 (h.sub.1 k (.inr (.inr (.inl e))))
  have ho : ∀ k, w0.heap.size ≤ k → ¬ k = b2 := fun k hk e => by have := h.lt.2.2.1; omega
  exact ⟨Nat.le_trans h.sz hc.size, h.lt, h.ne, h.sub, hc.blk h.blk (Ne.symm hn.2.1), h.acks.chg hc h.ne.1, by rw [ups_map]; exact hi, ⟨V, h3.chg hc (Ne.symm h.ne.2.2), h4.chg hc hl⟩, h.log.chg hc hl, h.out.chg hc (fun k hk => ho k (h.out.inS k hk)) (fun k hk _ _ => ho k hk)⟩
theorem Rep.acks_set {w0 w W : World} {p b1 b2 b3 : Nat} {X : Nat → Prop} {r : Rp} {A : Option Addr} {n c : Nat} {O : Value} (h : Rep w0 w p b1 b2 b3 X r A n c O) (hc : Chg (fun k => k = b1) w W) {k : Int} {v : Int} (hi : IM W b1 (ups k (.int .i64 v) (r.acks.map (fun q => (q.1, Value.int .i64 q.2))))) : Rep w0 W p b1 b2 b3 X { r with acks := ups k v r.acks } A n c O := by
  obtain ⟨V, h3, h4⟩ := h.chgs
  have hn := h.nep
  have hl : ∀ k, Lg X O k → ¬ k = b1 := fun k hk e => hk.1 (h.sub.1 k (.inr (.inl e)))
  have ho : ∀ k, w0.heap.size ≤ k → ¬ k = b1 := fun k hk e => by have := h.lt.2.1; omega
  exact ⟨Nat.le_trans h.sz hc.size, h.lt, h.ne, h.sub, hc.blk h.blk (Ne.symm hn.1), by rw [ups_map]; exact hi, h.starts.chg hc (Ne.symm h.ne.1), ⟨V, h3.chg hc (Ne.symm h.ne.2.1), h4.chg hc hl⟩, h.log.chg hc hl, h.out.chg hc (fun k hk => ho k (h.out.inS k hk)) (fun k hk _ _ => ho k hk)⟩
theorem Chgs.ups {w : World} {R : Nat → Prop} {m : Msg} {cs : Array Value} {i : Int} (hm : msgK.K w R m cs.toList) : ∀ {L : List (Int × Msg)} {V : List (Int × Value)}, Chgs w R L V → Chgs w R (Pa.ups i m L) (Pa.ups i (.agg cs) V)
  | [], V, h => by
    have : V = [] := by have := h.1; simpa using this
    subst this
    refine ⟨rfl, fun j q v hq hv => ?_⟩
    cases j with
    | zero => simp [Pa.ups] at hq hv; subst hq; subst hv; exact ⟨cs, rfl, hm⟩
    | succ j => simp [Pa.ups] at hq
  | p :: L, V, h => by
    obtain ⟨h1, h2⟩ := h
    cases V with
    | nil => simp at h1
    | cons u V =>
      simp only [List.map_cons, List.cons.injEq] at h1
      obtain ⟨e, h1⟩ := h1
      by_cases hp : p.1 = i
      · rw [Pa.ups, if_pos hp, Pa.ups, if_pos (e.trans hp)]
        refine ⟨by simp [h1], fun j q v hq hv => ?_⟩
        cases j with
        | zero => simp at hq hv; subst hq; subst hv; exact ⟨cs, rfl, hm⟩
        | succ j => exact h2 (j + 1) q v hq hv
      · rw [Pa.ups, if_neg hp, Pa.ups, if_neg (by rw [e]; exact hp)]
        have ih := Chgs.ups (i := i) hm (L := L) (V := V) ⟨h1, fun j q v hq hv => h2 (j + 1) q v (by simpa using hq) (by simpa using hv)⟩
        refine ⟨by simp [ih.1, e], fun j q v hq hv => ?_⟩
        cases j with
        | zero => exact h2 0 q v (by simpa using hq) (by simpa using hv)
        | succ j => exact ih.2 j q v (by simpa using hq) (by simpa using hv)
theorem Chgs.look {w : World} {R : Nat → Prop} {i : Int} : ∀ {L : List (Int × Msg)} {V : List (Int × Value)}, Chgs w R L V → match Pa.look i L with
    | none => Pa.look i V = none
    | some m => ∃ cs : Array Value, Pa.look i V = some (.agg cs) ∧ msgK.K w R m cs.toList
  | [], V, h => by
    have : V = [] := by have := h.1; simpa using this
    subst this
    rfl
  | p :: L, V, h => by
    obtain ⟨h1, h2⟩ := h
    cases V with
    | nil => simp at h1
    | cons u V =>
      simp only [List.map_cons, List.cons.injEq] at h1
      obtain ⟨e, h1⟩ := h1
      rw [look_cons, look_cons]
      by_cases hp : p.1 = i
      · rw [if_pos hp, if_pos (e.trans hp)]
        obtain ⟨cs, e1, e2⟩ := h2 0 p u rfl rfl
        exact ⟨cs, by rw [e1], e2⟩
      · rw [if_neg hp, if_neg (by rw [e]; exact hp)]
        exact Chgs.look (L := L) (V := V) ⟨h1, fun j q v hq hv => h2 (j + 1) q v (by simpa using hq) (by simpa using hv)⟩
theorem Rep.chgs_set {w0 w W : World} {p b1 b2 b3 : Nat} {X : Nat → Prop} {r : Rp} {A : Option Addr} {n c : Nat} {O : Value} (h : Rep w0 w p b1 b2 b3 X r A n c O) {V : List (Int × Value)} (hV : Chgs w (Lg X O) r.chgs V) (hc : Chg (fun k => k = b3) w W) {k : Int} {m : Msg} {cs : Array Value} (hi : IM W b3 (ups k (.agg cs) V)) (hm : msgK.K w (Lg X O) m cs.toList) : Rep w0 W p b1 b2 b3 X { r with chgs := ups k m r.chgs } A n c O := by
  have hn := h.nep
  have hl : ∀ k, Lg X O k → ¬ k = b3 := fun k hk e => hk.1 (h.sub.1 k (.inr (.inr (.inr e))))
  have ho : ∀ k, w0.heap.size ≤ k → ¬ k = b3 := fun k hk e => by have := h.lt.2.2.2; omega
  exact ⟨Nat.le_trans h.sz hc.size, h.lt, h.ne, h.sub, hc.blk h.blk (Ne.symm hn.2.2), h.acks.chg hc h.ne.2.1, h.starts.chg hc h.ne.2.2, ⟨_, hi, (hV.chg hc hl).ups (msgK.chg hm hc hl)⟩, h.log.chg hc hl, h.out.chg hc (fun k hk => ho k (h.out.inS k hk)) (fun k hk _ _ => ho k hk)⟩
set_option maxHeartbeats 4000000 in
set_option maxRecDepth 100000 in
theorem told_any {w0 w : World} {p b1 b2 b3 : Nat} {X : Nat → Prop} {r : Rp} {A : Option Addr} {n c : Nat} {O : Value} (h : Rep w0 w p b1 b2 b3 X r A n c O) {k : Int} (hl : n ≤ 64) :
    Calls Try.prog 54 #[.pointer (some ⟨p, 0, none⟩), .int .i64 k] w fun e' w' => e' = .returned (.agg #[.int .i64 k, .int .i64 0, .int .i64 0, .int .i64 0, .int .i64 (n : Int), .int .i64 r.s.commit, .int .i64 0, .slice A n c]) ∧ Chg (fun _ => False) w w' := by
  have H := hid h
  have HPB := hid (lt_of_blk h.blk)
  obtain ⟨w1, hw1⟩ : ∃ q_, q_ = (w.alloc (.cells #[.int .i64 0, .int .i64 0, .int .i64 0, .int .i64 0, .int .i64 0, .int .i64 0, .int .i64 0, .slice none 0 0] 41)) := ⟨_, rfl⟩
  have C1 := hid (show Chg (fun _ => False) w w1 by rw [hw1]; exact (Chg.refl _ w).alloc _)
  have BX := hid (show w1.heap[w.heap.size]? = some (.cells #[.int .i64 0, .int .i64 0, .int .i64 0, .int .i64 0, .int .i64 0, .int .i64 0, .int .i64 0, .slice none 0 0] 41 (0, 0)) by
    rw [hw1]
    have := blk_new w (.cells #[.int .i64 0, .int .i64 0, .int .i64 0, .int .i64 0, .int .i64 0, .int .i64 0, .int .i64 0, .slice none 0 0] 41)
    simpa using this)
  have SZ := hid (show w1.heap.size = w.heap.size + 1 by rw [hw1]; simp)
  have H1 := hid (h.far C1.out)
  have BP := hid H1.out.blk
  have HN := hid hl
  clear h hl
  go_enter Try.func54, Try.ntmps54
  go_wp2_with fail
  rw [← hw1]
  clear hw1
  have U_2 : ∀ wx, Chg (fun _ => False) w1 wx → wx.cell? ⟨p, 2, none⟩ = some (.int .i64 r.tm) := fun wx hx => (cellAt (hx.blk BP.out (fun h => h)) 2).trans rfl
  have U_5 : ∀ wx, Chg (fun _ => False) w1 wx → wx.cell? ⟨p, 5, none⟩ = some (.int .i64 r.s.commit) := fun wx hx => (cellAt (hx.blk BP.out (fun h => h)) 5).trans rfl
  have U_7 : ∀ wx, Chg (fun _ => False) w1 wx → wx.cell? ⟨p, 7, none⟩ = some (.slice A n c) := fun wx hx => (cellAt (hx.blk BP.out (fun h => h)) 7).trans rfl
  have HD := hid ((Chg.refl (fun _ => False) w1).drew)
  have BD := hid (HD.out.blk BX.out (fun h => h))
  have XX_0 : w1.cell? ⟨w.heap.size, 0, none⟩ = some (.int .i64 0) := (cellAt BX.out 0).trans rfl
  have XX_f0 : w1.frozen? ⟨w.heap.size, 0, none⟩ = false := freeAt BX.out 0
  have XD_0 : w1.drew.cell? ⟨w.heap.size, 0, none⟩ = some (.int .i64 0) := (cellAt BD.out 0).trans rfl
  have XD_f0 : w1.drew.frozen? ⟨w.heap.size, 0, none⟩ = false := freeAt BD.out 0
  have XX_1 : w1.cell? ⟨w.heap.size, 1, none⟩ = some (.int .i64 0) := (cellAt BX.out 1).trans rfl
  have XX_f1 : w1.frozen? ⟨w.heap.size, 1, none⟩ = false := freeAt BX.out 1
  have XD_1 : w1.drew.cell? ⟨w.heap.size, 1, none⟩ = some (.int .i64 0) := (cellAt BD.out 1).trans rfl
  have XD_f1 : w1.drew.frozen? ⟨w.heap.size, 1, none⟩ = false := freeAt BD.out 1
  have XX_2 : w1.cell? ⟨w.heap.size, 2, none⟩ = some (.int .i64 0) := (cellAt BX.out 2).trans rfl
  have XX_f2 : w1.frozen? ⟨w.heap.size, 2, none⟩ = false := freeAt BX.out 2
  have XD_2 : w1.drew.cell? ⟨w.heap.size, 2, none⟩ = some (.int .i64 0) := (cellAt BD.out 2).trans rfl
  have XD_f2 : w1.drew.frozen? ⟨w.heap.size, 2, none⟩ = false := freeAt BD.out 2
  have XX_3 : w1.cell? ⟨w.heap.size, 3, none⟩ = some (.int .i64 0) := (cellAt BX.out 3).trans rfl
  have XX_f3 : w1.frozen? ⟨w.heap.size, 3, none⟩ = false := freeAt BX.out 3
  have XD_3 : w1.drew.cell? ⟨w.heap.size, 3, none⟩ = some (.int .i64 0) := (cellAt BD.out 3).trans rfl
  have XD_f3 : w1.drew.frozen? ⟨w.heap.size, 3, none⟩ = false := freeAt BD.out 3
  have XX_4 : w1.cell? ⟨w.heap.size, 4, none⟩ = some (.int .i64 0) := (cellAt BX.out 4).trans rfl
  have XX_f4 : w1.frozen? ⟨w.heap.size, 4, none⟩ = false := freeAt BX.out 4
  have XD_4 : w1.drew.cell? ⟨w.heap.size, 4, none⟩ = some (.int .i64 0) := (cellAt BD.out 4).trans rfl
  have XD_f4 : w1.drew.frozen? ⟨w.heap.size, 4, none⟩ = false := freeAt BD.out 4
  have XX_5 : w1.cell? ⟨w.heap.size, 5, none⟩ = some (.int .i64 0) := (cellAt BX.out 5).trans rfl
  have XX_f5 : w1.frozen? ⟨w.heap.size, 5, none⟩ = false := freeAt BX.out 5
  have XD_5 : w1.drew.cell? ⟨w.heap.size, 5, none⟩ = some (.int .i64 0) := (cellAt BD.out 5).trans rfl
  have XD_f5 : w1.drew.frozen? ⟨w.heap.size, 5, none⟩ = false := freeAt BD.out 5
  have XX_6 : w1.cell? ⟨w.heap.size, 6, none⟩ = some (.int .i64 0) := (cellAt BX.out 6).trans rfl
  have XX_f6 : w1.frozen? ⟨w.heap.size, 6, none⟩ = false := freeAt BX.out 6
  have XD_6 : w1.drew.cell? ⟨w.heap.size, 6, none⟩ = some (.int .i64 0) := (cellAt BD.out 6).trans rfl
  have XD_f6 : w1.drew.frozen? ⟨w.heap.size, 6, none⟩ = false := freeAt BD.out 6
  have XX_7 : w1.cell? ⟨w.heap.size, 7, none⟩ = some (.slice none 0 0) := (cellAt BX.out 7).trans rfl
  have XX_f7 : w1.frozen? ⟨w.heap.size, 7, none⟩ = false := freeAt BX.out 7
  have XD_7 : w1.drew.cell? ⟨w.heap.size, 7, none⟩ = some (.slice none 0 0) := (cellAt BD.out 7).trans rfl
  have XD_f7 : w1.drew.frozen? ⟨w.heap.size, 7, none⟩ = false := freeAt BD.out 7
  refine wpB_start (fun wx : World => Chg (fun _ => False) w1 wx) (by kernel_rfl) ?_
  have hHeld : (fun wx : World => Chg (fun _ => False) w1 wx) _ := (Chg.refl (fun _ => False) w1).drew
  -- 0: t5 := move t1 : 3
  refine wpB_take (i := 0) (v := ?_) (get_of_drop rfl) (by kernel_rfl) (by kernel_rfl) (by kernel_rfl) (by kernel_rfl) (fun _ _ _ h => h) (Or.inl ⟨by rfl, ?_⟩) hHeld ?_
  rotate_left
  · (intro w hSw; (try dsimp only at hSw); go_simp <;> with_reducible rfl)
  try simp only [Act.put, List.setIfInBounds_toArray, List.set_cons_zero, List.set_cons_succ]
  -- 1: t6 := move t0 : 30
  refine wpB_take (i := 1) (v := ?_) (get_of_drop rfl) (by kernel_rfl) (by kernel_rfl) (by kernel_rfl) (by kernel_rfl) (fun _ _ _ h => h) (Or.inl ⟨by rfl, ?_⟩) hHeld ?_
  rotate_left
  · (intro w hSw; (try dsimp only at hSw); go_simp <;> with_reducible rfl)
  try simp only [Act.put, List.setIfInBounds_toArray, List.set_cons_zero, List.set_cons_succ]
  -- 3: t8 := move t0 : 30
  refine wpB_take (i := 3) (v := ?_) (get_of_drop rfl) (by kernel_rfl) (by kernel_rfl) (by kernel_rfl) (by kernel_rfl) (fun _ _ _ h => h) (Or.inl ⟨by rfl, ?_⟩) hHeld ?_
  rotate_left
  · (intro w hSw; (try dsimp only at hSw); go_simp <;> with_reducible rfl)
  try simp only [Act.put, List.setIfInBounds_toArray, List.set_cons_zero, List.set_cons_succ]
  -- 4: t9 := nilCheck t8 : 0
  refine wpB_take (i := 4) (v := ?_) (get_of_drop rfl) (by kernel_rfl) (by kernel_rfl) (by kernel_rfl) (by kernel_rfl) (fun _ _ _ h => h) (Or.inl ⟨by rfl, ?_⟩) hHeld ?_
  rotate_left
  · (intro w hSw; (try dsimp only at hSw); go_simp <;> with_reducible rfl)
  try simp only [Act.put, List.setIfInBounds_toArray, List.set_cons_zero, List.set_cons_succ]
  -- 5: t10 := fieldAddr 100 t9 1 : 0
  refine wpB_take (i := 5) (v := ?_) (get_of_drop rfl) (by kernel_rfl) (by kernel_rfl) (by kernel_rfl) (by kernel_rfl) (fun _ _ _ h => h) (Or.inl ⟨by rfl, ?_⟩) hHeld ?_
  rotate_left
  · (intro w hSw; (try dsimp only at hSw); go_simp <;> with_reducible rfl)
  try simp only [Act.put, List.setIfInBounds_toArray, List.set_cons_zero, List.set_cons_succ]
  -- 6: t11 := fieldAddr 26 t10 2 : 0
  refine wpB_take (i := 6) (v := ?_) (get_of_drop rfl) (by kernel_rfl) (by kernel_rfl) (by kernel_rfl) (by kernel_rfl) (fun _ _ _ h => h) (Or.inl ⟨by rfl, ?_⟩) hHeld ?_
  rotate_left
  · (intro w hSw; (try dsimp only at hSw); go_simp <;> with_reducible rfl)
  try simp only [Act.put, List.setIfInBounds_toArray, List.set_cons_zero, List.set_cons_succ]
  -- 7: t12 := load 3 t11 : 3
  refine wpB_take (i := 7) (v := ?_) (get_of_drop rfl) (by kernel_rfl) (by kernel_rfl) (by kernel_rfl) (by kernel_rfl) (fun _ _ _ h => h) (Or.inl ⟨by rfl, ?_⟩) hHeld ?_
  rotate_left
  · (intro w hSw; (try dsimp only at hSw); go_simp <;> with_reducible rfl)
  try simp only [Act.put, List.setIfInBounds_toArray, List.set_cons_zero, List.set_cons_succ]
  -- 8: t13 := move t0 : 30
  refine wpB_take (i := 8) (v := ?_) (get_of_drop rfl) (by kernel_rfl) (by kernel_rfl) (by kernel_rfl) (by kernel_rfl) (fun _ _ _ h => h) (Or.inl ⟨by rfl, ?_⟩) hHeld ?_
  rotate_left
  · (intro w hSw; (try dsimp only at hSw); go_simp <;> with_reducible rfl)
  try simp only [Act.put, List.setIfInBounds_toArray, List.set_cons_zero, List.set_cons_succ]
  -- 9: t14 := nilCheck t13 : 0
  refine wpB_take (i := 9) (v := ?_) (get_of_drop rfl) (by kernel_rfl) (by kernel_rfl) (by kernel_rfl) (by kernel_rfl) (fun _ _ _ h => h) (Or.inl ⟨by rfl, ?_⟩) hHeld ?_
  rotate_left
  · (intro w hSw; (try dsimp only at hSw); go_simp <;> with_reducible rfl)
  try simp only [Act.put, List.setIfInBounds_toArray, List.set_cons_zero, List.set_cons_succ]
  -- 10: t15 := fieldAddr 100 t14 1 : 0
  refine wpB_take (i := 10) (v := ?_) (get_of_drop rfl) (by kernel_rfl) (by kernel_rfl) (by kernel_rfl) (by kernel_rfl) (fun _ _ _ h => h) (Or.inl ⟨by rfl, ?_⟩) hHeld ?_
  rotate_left
  · (intro w hSw; (try dsimp only at hSw); go_simp <;> with_reducible rfl)
  try simp only [Act.put, List.setIfInBounds_toArray, List.set_cons_zero, List.set_cons_succ]
  -- 11: t16 := fieldAddr 26 t15 4 : 0
  refine wpB_take (i := 11) (v := ?_) (get_of_drop rfl) (by kernel_rfl) (by kernel_rfl) (by kernel_rfl) (by kernel_rfl) (fun _ _ _ h => h) (Or.inl ⟨by rfl, ?_⟩) hHeld ?_
  rotate_left
  · (intro w hSw; (try dsimp only at hSw); go_simp <;> with_reducible rfl)
  try simp only [Act.put, List.setIfInBounds_toArray, List.set_cons_zero, List.set_cons_succ]
  -- 12: t17 := load 24 t16 : 24
  refine wpB_take (i := 12) (v := ?_) (get_of_drop rfl) (by kernel_rfl) (by kernel_rfl) (by kernel_rfl) (by kernel_rfl) (fun _ _ _ h => h) (Or.inl ⟨by rfl, ?_⟩) hHeld ?_
  rotate_left
  · (intro w hSw; (try dsimp only at hSw); go_simp <;> with_reducible rfl)
  try simp only [Act.put, List.setIfInBounds_toArray, List.set_cons_zero, List.set_cons_succ]
  -- 2: t7 := CALL fn76(t6) : 3
  refine wpB_act (i := 2) (by kernel_rfl) (get_of_drop rfl) (fun K hK => ?_)
  go_simp
  refine (length_any (H1.out.far hHeld) HN.out).mono ?_
  rintro e' wy ⟨rfl, rfl⟩
  refine hK.out _ _ ?_ (fun hHeld2 => ?_)
  · first | assumption | exact Chg.alloc hHeld _
  clear hHeld hK K
  have hHeld := hHeld2
  clear hHeld2
  try simp only [Act.put, List.setIfInBounds_toArray, List.set_cons_zero, List.set_cons_succ]
  -- 13: t18 := build 41 [⟨0, t5⟩, ⟨4, t7⟩, ⟨5, t12⟩, ⟨7, t17⟩] : 41
  refine wpB_take (i := 13) (v := ?_) (get_of_drop rfl) (by kernel_rfl) (by kernel_rfl) (by kernel_rfl) (by kernel_rfl) (fun _ _ _ h => h) (Or.inl ⟨by rfl, ?_⟩) hHeld ?_
  rotate_left
  · (intro w hSw; (try dsimp only at hSw); go_simp <;> with_reducible rfl)
  try simp only [Act.put, List.setIfInBounds_toArray, List.set_cons_zero, List.set_cons_succ]
  -- 14: t- := store 41 t4 t18 : 0 (BARRIER)
  refine wpB_bar (i := 14) (by kernel_rfl) (get_of_drop rfl) (by kernel_rfl) (fun K hK => ?_)
  go_simp
  refine hK.out _ _ (fun _ : World => True) ?_
  clear hHeld hK K
  have hHeld := trivial
  try simp only [Act.put, List.setIfInBounds_toArray, List.set_cons_zero, List.set_cons_succ]
  refine wpB_done (by kernel_rfl) ?_ _
  obtain ⟨PB, PC⟩ := put_blk [(.int .i64 k : Value), .int .i64 0, .int .i64 0, .int .i64 0, .int .i64 (n : Int), .int .i64 r.s.commit, .int .i64 0, .slice A n c] w1 _ BX.out rfl
  obtain ⟨W, hW⟩ : ∃ q_, q_ = ((((((((w1.setCell ⟨w.heap.size, 0, none⟩ (.int .i64 k)).setCell ⟨w.heap.size, 1, none⟩ (.int .i64 0)).setCell ⟨w.heap.size, 2, none⟩ (.int .i64 0)).setCell ⟨w.heap.size, 3, none⟩ (.int .i64 0)).setCell ⟨w.heap.size, 4, none⟩ (.int .i64 (n : Int))).setCell ⟨w.heap.size, 5, none⟩ (.int .i64 r.s.commit)).setCell ⟨w.heap.size, 6, none⟩ (.int .i64 0)).setCell ⟨w.heap.size, 7, none⟩ (.slice A n c)).drew := ⟨_, rfl⟩
  rw [← hW]
  have BX2 := hid (show W.heap[w.heap.size]? = some (.cells #[.int .i64 k, .int .i64 0, .int .i64 0, .int .i64 0, .int .i64 (n : Int), .int .i64 r.s.commit, .int .i64 0, .slice A n c] 41 (0, 0)) by rw [hW]; exact blk_drew PB)
  have CW := hid (show Chg (fun k => k = w.heap.size) w1 W by rw [hW]; exact PC.drew)
  clear PB PC hW
  clear XX_0 XX_f0 XD_0 XD_f0 XX_1 XX_f1 XD_1 XD_f1 XX_2 XX_f2 XD_2 XD_f2 XX_3 XX_f3 XD_3 XD_f3 XX_4 XX_f4 XD_4 XD_f4 XX_5 XX_f5 XD_5 XD_f5 XX_6 XX_f6 XD_6 XD_f6 XX_7 XX_f7 XD_7 XD_f7
  go_wp2_with fail
  have z0 : W.cell? ⟨w.heap.size, 0, none⟩ = some (.int .i64 k) := (cellAt BX2.out 0).trans rfl
  have z1 : W.cell? ⟨w.heap.size, 1, none⟩ = some (.int .i64 0) := (cellAt BX2.out 1).trans rfl
  have z2 : W.cell? ⟨w.heap.size, 2, none⟩ = some (.int .i64 0) := (cellAt BX2.out 2).trans rfl
  have z3 : W.cell? ⟨w.heap.size, 3, none⟩ = some (.int .i64 0) := (cellAt BX2.out 3).trans rfl
  have z4 : W.cell? ⟨w.heap.size, 4, none⟩ = some (.int .i64 (n : Int)) := (cellAt BX2.out 4).trans rfl
  have z5 : W.cell? ⟨w.heap.size, 5, none⟩ = some (.int .i64 r.s.commit) := (cellAt BX2.out 5).trans rfl
  have z6 : W.cell? ⟨w.heap.size, 6, none⟩ = some (.int .i64 0) := (cellAt BX2.out 6).trans rfl
  have z7 : W.cell? ⟨w.heap.size, 7, none⟩ = some (.slice A n c) := (cellAt BX2.out 7).trans rfl
  refine bodyPost_ret (v := .agg #[.int .i64 k, .int .i64 0, .int .i64 0, .int .i64 0, .int .i64 (n : Int), .int .i64 r.s.commit, .int .i64 0, .slice A n c]) (by simp [results, Try.results54, go_sem, z0, z1, z2, z3, z4, z5, z6, z7]) rfl ?_
  exact ⟨rfl, C1.out.trans CW.out (fun j hj hl => by omega)⟩
set_option maxHeartbeats 4000000 in
set_option maxRecDepth 100000 in
theorem begin_any {w0 w : World} {p b1 b2 b3 : Nat} {X : Nat → Prop} {r : Rp} {A : Option Addr} {n c : Nat} {O : Value} (h : Rep w0 w p b1 b2 b3 X r A n c O) {v : Int} (hc : r.n = 3 ∨ r.n = 5 ∨ r.n = 7) (hr : NumW v ∧ NumW r.id) (ho : r.out.length ≤ 900) :
    Calls Try.prog 79 #[.pointer (some ⟨p, 0, none⟩), .int .i64 v] w fun e' w' => ∃ O', e' = .returned (.tuple #[]) ∧ Rep w0 w' p b1 b2 b3 X (beginR r v) A n c O' ∧ (∀ k, O'.ownBlock = some k → O.ownBlock = some k ∨ w.heap.size ≤ k) ∧ Chg (fun k => M4 p b1 b2 b3 k ∨ O.ownBlock = some k) w w' := by
  have H := hid h
  have HC := hid hc
  have HRW := hid hr
  have HO := hid ho
  clear h hc hr ho
  go_enter Try.func79, Try.ntmps79
  go_wp2_with fail
  refine (enter_any H.out).mono ?_
  rintro e w1 ⟨rfl, h1, k1⟩
  have H1 := hid h1
  have K1 := hid k1
  clear h1 k1
  have BP := hid H1.out.blk
  obtain ⟨w2, hr2, g2, k2⟩ := ((H1.out.starts.chg ((Chg.refl (fun _ => False) w1).drew) (fun h => h)).update (P := Try.prog) map_ty2 Try.underlying3 HRW.out.2 (.bool true) (by simp [enterR, forgetR]))
  have HR2 := hid hr2
  have H2 := hid ((H1.out.far ((Chg.refl (fun _ => False) w1).drew)).starts_set k2 g2)
  have K2 := hid k2
  clear hr2 g2 k2
  have U_1 : ∀ wx, Chg (fun _ => False) w1 wx → wx.cell? ⟨p, 1, none⟩ = some (.int .i64 r.id) := fun wx hx => (cellAt (hx.blk BP.out (fun h => h)) 1).trans rfl
  have U_10 : ∀ wx, Chg (fun _ => False) w1 wx → wx.cell? ⟨p, 10, none⟩ = some (.map (some b2)) := fun wx hx => (cellAt (hx.blk BP.out (fun h => h)) 10).trans rfl
  go_wp2_with fail
  have hrU := HR2.out
  refine wpB_start (fun wx : World => Chg (fun _ => False) w1 wx) (by kernel_rfl) ?_
  have hHeld : (fun wx : World => Chg (fun _ => False) w1 wx) _ := (Chg.refl (fun _ => False) w1).drew
  -- 0: t7 := move t0 : 30
  refine wpB_take (i := 0) (v := ?_) (get_of_drop rfl) (by kernel_rfl) (by kernel_rfl) (by kernel_rfl) (by kernel_rfl) (fun _ _ _ h => h) (Or.inl ⟨by rfl, ?_⟩) hHeld ?_
  rotate_left
  · (intro w hSw; (try dsimp only at hSw); go_simp <;> with_reducible rfl)
  try simp only [Act.put, List.setIfInBounds_toArray, List.set_cons_zero, List.set_cons_succ]
  -- 1: t8 := nilCheck t7 : 0
  refine wpB_take (i := 1) (v := ?_) (get_of_drop rfl) (by kernel_rfl) (by kernel_rfl) (by kernel_rfl) (by kernel_rfl) (fun _ _ _ h => h) (Or.inl ⟨by rfl, ?_⟩) hHeld ?_
  rotate_left
  · (intro w hSw; (try dsimp only at hSw); go_simp <;> with_reducible rfl)
  try simp only [Act.put, List.setIfInBounds_toArray, List.set_cons_zero, List.set_cons_succ]
  -- 2: t9 := fieldAddr 100 t8 4 : 0
  refine wpB_take (i := 2) (v := ?_) (get_of_drop rfl) (by kernel_rfl) (by kernel_rfl) (by kernel_rfl) (by kernel_rfl) (fun _ _ _ h => h) (Or.inl ⟨by rfl, ?_⟩) hHeld ?_
  rotate_left
  · (intro w hSw; (try dsimp only at hSw); go_simp <;> with_reducible rfl)
  try simp only [Act.put, List.setIfInBounds_toArray, List.set_cons_zero, List.set_cons_succ]
  -- 3: t10 := load 97 t9 : 97
  refine wpB_take (i := 3) (v := ?_) (get_of_drop rfl) (by kernel_rfl) (by kernel_rfl) (by kernel_rfl) (by kernel_rfl) (fun _ _ _ h => h) (Or.inl ⟨by rfl, ?_⟩) hHeld ?_
  rotate_left
  · (intro w hSw; (try dsimp only at hSw); go_simp <;> with_reducible rfl)
  try simp only [Act.put, List.setIfInBounds_toArray, List.set_cons_zero, List.set_cons_succ]
  -- 4: t11 := move t0 : 30
  refine wpB_take (i := 4) (v := ?_) (get_of_drop rfl) (by kernel_rfl) (by kernel_rfl) (by kernel_rfl) (by kernel_rfl) (fun _ _ _ h => h) (Or.inl ⟨by rfl, ?_⟩) hHeld ?_
  rotate_left
  · (intro w hSw; (try dsimp only at hSw); go_simp <;> with_reducible rfl)
  try simp only [Act.put, List.setIfInBounds_toArray, List.set_cons_zero, List.set_cons_succ]
  -- 5: t12 := nilCheck t11 : 0
  refine wpB_take (i := 5) (v := ?_) (get_of_drop rfl) (by kernel_rfl) (by kernel_rfl) (by kernel_rfl) (by kernel_rfl) (fun _ _ _ h => h) (Or.inl ⟨by rfl, ?_⟩) hHeld ?_
  rotate_left
  · (intro w hSw; (try dsimp only at hSw); go_simp <;> with_reducible rfl)
  try simp only [Act.put, List.setIfInBounds_toArray, List.set_cons_zero, List.set_cons_succ]
  -- 6: t13 := fieldAddr 100 t12 0 : 0
  refine wpB_take (i := 6) (v := ?_) (get_of_drop rfl) (by kernel_rfl) (by kernel_rfl) (by kernel_rfl) (by kernel_rfl) (fun _ _ _ h => h) (Or.inl ⟨by rfl, ?_⟩) hHeld ?_
  rotate_left
  · (intro w hSw; (try dsimp only at hSw); go_simp <;> with_reducible rfl)
  try simp only [Act.put, List.setIfInBounds_toArray, List.set_cons_zero, List.set_cons_succ]
  -- 7: t14 := fieldAddr 23 t13 1 : 0
  refine wpB_take (i := 7) (v := ?_) (get_of_drop rfl) (by kernel_rfl) (by kernel_rfl) (by kernel_rfl) (by kernel_rfl) (fun _ _ _ h => h) (Or.inl ⟨by rfl, ?_⟩) hHeld ?_
  rotate_left
  · (intro w hSw; (try dsimp only at hSw); go_simp <;> with_reducible rfl)
  try simp only [Act.put, List.setIfInBounds_toArray, List.set_cons_zero, List.set_cons_succ]
  -- 8: t15 := load 3 t14 : 3
  refine wpB_take (i := 8) (v := ?_) (get_of_drop rfl) (by kernel_rfl) (by kernel_rfl) (by kernel_rfl) (by kernel_rfl) (fun _ _ _ h => h) (Or.inl ⟨by rfl, ?_⟩) hHeld ?_
  rotate_left
  · (intro w hSw; (try dsimp only at hSw); go_simp <;> with_reducible rfl)
  try simp only [Act.put, List.setIfInBounds_toArray, List.set_cons_zero, List.set_cons_succ]
  -- 9: t- := mapUpdate 97 t10 t15 #true : 0 (BARRIER)
  refine wpB_bar (i := 9) (by kernel_rfl) (get_of_drop rfl) (by kernel_rfl) (fun K hK => ?_)
  go_simp
  refine hK.out _ _ (fun _ : World => True) ?_
  clear hHeld hK K
  have hHeld := trivial
  try simp only [Act.put, List.setIfInBounds_toArray, List.set_cons_zero, List.set_cons_succ]
  refine wpB_done (by kernel_rfl) ?_ _
  clear hrU HR2
  go_wp2_with fail
  refine (say_any (m := msgOp 4 0) (R := fun _ => False) H2.out HC.out (at_nil_ _ _ _) (fun _ h => h.elim) (by decide) (by intro e he; cases he) ⟨by decide, by decide, by decide, by decide⟩ HRW.out HO.out).mono ?_
  rintro e w3 ⟨O', rfl, h3, ho3, k3⟩
  have H3 := hid h3
  have HO3 := hid ho3
  have K3 := hid k3
  clear h3 ho3 k3
  go_wp2_with fail
  go_end0
  have sz : w.heap.size ≤ w2.heap.size := Nat.le_trans K1.out.size (Nat.le_trans ((Chg.refl (fun _ => False) w1).drew).size K2.out.size)
  refine ⟨O', rfl, H3.out, fun j hj => (HO3.out j hj).imp id (fun h => Nat.le_trans sz h), ?_⟩
  have C1 := (K1.out.mono (S' := fun k => M4 p b1 b2 b3 k ∨ O.ownBlock = some k) (fun k hk _ => .inl hk)).drew
  exact (C1.trans K2.out (fun k hk _ => .inl (.inr (.inr (.inl hk))))).trans K3.out (fun k hk _ => by rcases hk with h | h; exact .inl (.inl h); exact .inr h)
end Go.Proofs.Ytaldoajdhbndhaa.Pa


/- fits, extends. -/

namespace Go.Proofs.Ytaldoajdhbndhaa.Pa

set_option linter.unusedVariables false

set_option linter.unusedSimpArgs false

open Go.RowKit Go.Proofs.Ytaldoajdhbndhaa.C

attribute [local go_sem] max2_int min2_int max_two min_two

set_option maxHeartbeats 4000000 in
set_option maxRecDepth 100000 in
theorem fits_any {w0 w : World} {p b1 b2 b3 : Nat} {X : Nat → Prop} {r : Rp} {A : Option Addr} {n c : Nat} {O : Value} (h : Rep w0 w p b1 b2 b3 X r A n c O) {l : List Entry} {R : Nat → Prop} {B : Option Addr} {k d : Nat} (hm : Ty.At entryK w R B k d l) (hs : stR r.s = true) :
    Calls Try.prog 91 #[.pointer (some ⟨p, 0, none⟩), .slice B k d] w fun e' w' => e' = .returned (.bool (fitsR r l)) ∧ Chg (fun _ => False) w w' := by
  have H := hid h
  have BP := hid h.blk
  have HM := hid hm
  have hst := (stR_iff.1 hs).1
  obtain ⟨q, hq⟩ : ∃ q : Nat, r.s.commit = (q : Int) := ⟨r.s.commit.toNat, by omega⟩
  have hqn : q ≤ n := by have h1 := h.log.1; omega
  have HQ := hid hq
  have HQN := hid hqn
  obtain ⟨i, hi, _, hsz, _⟩ := info_parts infoEntryP
  have hcutA := fun W => cut_to (P := Try.prog) 24 56 .i64 Try.underlying24 hi A n c q (by have := h.log.2.1; omega) W
  have HF := hid (show fitsR r l = (decide ((q : Int) ≤ (l.length : Int)) && decide (l.take q = r.s.log.take q)) by unfold fitsR; rw [hq]; rfl)
  have hk := hm.1
  have U_5 : ∀ wx, Chg (fun _ => False) w wx → wx.cell? ⟨p, 5, none⟩ = some (.int .i64 r.s.commit) := fun wx hx => (cellAt (hx.blk BP.out (fun h => h)) 5).trans rfl
  have U_7 : ∀ wx, Chg (fun _ => False) w wx → wx.cell? ⟨p, 7, none⟩ = some (.slice A n c) := fun wx hx => (cellAt (hx.blk BP.out (fun h => h)) 7).trans rfl
  rw [hq] at U_5
  clear hst hs h hq hi hsz hqn
  by_cases hge : q ≤ k
  · have hge1 : (q : Int) ≤ (k : Int) := by omega
    have hge2 : ¬ (k : Int) < (q : Int) := by omega
    have hcutB := fun W => cut_to (P := Try.prog) 24 56 .i64 Try.underlying24 (info_parts infoEntryP).choose_spec.1 B k d q (by have := hm.2.1; omega) W
    replace HF := hid (show fitsR r l = decide (l.take q = r.s.log.take q) by rw [HF.out, decide_eq_true (by omega : (q : Int) ≤ (l.length : Int))]; rfl)
    have HGE := hid hge
    clear hm hge hk
    go_enter Try.func91, Try.ntmps91
    go_wp2_with fail
    refine wpB_start (fun wx : World => Chg (fun _ => False) w wx) (by kernel_rfl) ?_
    have hHeld : (fun wx : World => Chg (fun _ => False) w wx) _ := (Chg.refl (fun _ => False) w).drew
    -- 0: t5 := move t1 : 24
    refine wpB_take (i := 0) (v := ?_) (get_of_drop rfl) (by kernel_rfl) (by kernel_rfl) (by kernel_rfl) (by kernel_rfl) (fun _ _ _ h => h) (Or.inl ⟨by rfl, ?_⟩) hHeld ?_
    rotate_left
    · (intro w hSw; (try dsimp only at hSw); go_simp <;> with_reducible rfl)
    try simp only [Act.put, List.setIfInBounds_toArray, List.set_cons_zero, List.set_cons_succ]
    -- 1: t6 := len(t5) types [24] : 3
    refine wpB_take (i := 1) (v := ?_) (get_of_drop rfl) (by kernel_rfl) (by kernel_rfl) (by kernel_rfl) (by kernel_rfl) (fun _ _ _ h => h) (Or.inl ⟨by rfl, ?_⟩) hHeld ?_
    rotate_left
    · (intro w hSw; (try dsimp only at hSw); go_simp <;> with_reducible rfl)
    try simp only [Act.put, List.setIfInBounds_toArray, List.set_cons_zero, List.set_cons_succ]
    -- 2: t7 := move t0 : 30
    refine wpB_take (i := 2) (v := ?_) (get_of_drop rfl) (by kernel_rfl) (by kernel_rfl) (by kernel_rfl) (by kernel_rfl) (fun _ _ _ h => h) (Or.inl ⟨by rfl, ?_⟩) hHeld ?_
    rotate_left
    · (intro w hSw; (try dsimp only at hSw); go_simp <;> with_reducible rfl)
    try simp only [Act.put, List.setIfInBounds_toArray, List.set_cons_zero, List.set_cons_succ]
    -- 3: t8 := nilCheck t7 : 0
    refine wpB_take (i := 3) (v := ?_) (get_of_drop rfl) (by kernel_rfl) (by kernel_rfl) (by kernel_rfl) (by kernel_rfl) (fun _ _ _ h => h) (Or.inl ⟨by rfl, ?_⟩) hHeld ?_
    rotate_left
    · (intro w hSw; (try dsimp only at hSw); go_simp <;> with_reducible rfl)
    try simp only [Act.put, List.setIfInBounds_toArray, List.set_cons_zero, List.set_cons_succ]
    -- 4: t9 := fieldAddr 100 t8 1 : 0
    refine wpB_take (i := 4) (v := ?_) (get_of_drop rfl) (by kernel_rfl) (by kernel_rfl) (by kernel_rfl) (by kernel_rfl) (fun _ _ _ h => h) (Or.inl ⟨by rfl, ?_⟩) hHeld ?_
    rotate_left
    · (intro w hSw; (try dsimp only at hSw); go_simp <;> with_reducible rfl)
    try simp only [Act.put, List.setIfInBounds_toArray, List.set_cons_zero, List.set_cons_succ]
    -- 5: t10 := fieldAddr 26 t9 2 : 0
    refine wpB_take (i := 5) (v := ?_) (get_of_drop rfl) (by kernel_rfl) (by kernel_rfl) (by kernel_rfl) (by kernel_rfl) (fun _ _ _ h => h) (Or.inl ⟨by rfl, ?_⟩) hHeld ?_
    rotate_left
    · (intro w hSw; (try dsimp only at hSw); go_simp <;> with_reducible rfl)
    try simp only [Act.put, List.setIfInBounds_toArray, List.set_cons_zero, List.set_cons_succ]
    -- 6: t11 := load 3 t10 : 3
    refine wpB_take (i := 6) (v := ?_) (get_of_drop rfl) (by kernel_rfl) (by kernel_rfl) (by kernel_rfl) (by kernel_rfl) (fun _ _ _ h => h) (Or.inl ⟨by rfl, ?_⟩) hHeld ?_
    rotate_left
    · (intro w hSw; (try dsimp only at hSw); go_simp <;> with_reducible rfl)
    try simp only [Act.put, List.setIfInBounds_toArray, List.set_cons_zero, List.set_cons_succ]
    -- 7: t12 := binOp BinOp.geq 3 t6 t11 3 : 4
    refine wpB_take (i := 7) (v := ?_) (get_of_drop rfl) (by kernel_rfl) (by kernel_rfl) (by kernel_rfl) (by kernel_rfl) (fun _ _ _ h => h) (Or.inl ⟨by rfl, ?_⟩) hHeld ?_
    rotate_left
    · (intro w hSw; (try dsimp only at hSw); go_simp <;> with_reducible rfl)
    try simp only [Act.put, List.setIfInBounds_toArray, List.set_cons_zero, List.set_cons_succ]
    -- 8: t13 := move t12 : 4
    refine wpB_take (i := 8) (v := ?_) (get_of_drop rfl) (by kernel_rfl) (by kernel_rfl) (by kernel_rfl) (by kernel_rfl) (fun _ _ _ h => h) (Or.inl ⟨by rfl, ?_⟩) hHeld ?_
    rotate_left
    · (intro w hSw; (try dsimp only at hSw); go_simp <;> with_reducible rfl)
    try simp only [Act.put, List.setIfInBounds_toArray, List.set_cons_zero, List.set_cons_succ]
    -- 9: t14 := move t1 : 24   [if ⟨8, true⟩]
    refine wpB_take (i := 9) (v := ?_) (get_of_drop rfl) (by kernel_rfl) (by kernel_rfl) (by kernel_rfl) (by kernel_rfl) (fun _ _ _ h => h) (Or.inl ⟨by rfl, ?_⟩) hHeld ?_
    rotate_left
    · (intro w hSw; (try dsimp only at hSw); go_simp <;> with_reducible rfl)
    try simp only [Act.put, List.setIfInBounds_toArray, List.set_cons_zero, List.set_cons_succ]
    -- 10: t15 := move t0 : 30   [if ⟨8, true⟩]
    refine wpB_take (i := 10) (v := ?_) (get_of_drop rfl) (by kernel_rfl) (by kernel_rfl) (by kernel_rfl) (by kernel_rfl) (fun _ _ _ h => h) (Or.inl ⟨by rfl, ?_⟩) hHeld ?_
    rotate_left
    · (intro w hSw; (try dsimp only at hSw); go_simp <;> with_reducible rfl)
    try simp only [Act.put, List.setIfInBounds_toArray, List.set_cons_zero, List.set_cons_succ]
    -- 11: t16 := nilCheck t15 : 0   [if ⟨8, true⟩]
    refine wpB_take (i := 11) (v := ?_) (get_of_drop rfl) (by kernel_rfl) (by kernel_rfl) (by kernel_rfl) (by kernel_rfl) (fun _ _ _ h => h) (Or.inl ⟨by rfl, ?_⟩) hHeld ?_
    rotate_left
    · (intro w hSw; (try dsimp only at hSw); go_simp <;> with_reducible rfl)
    try simp only [Act.put, List.setIfInBounds_toArray, List.set_cons_zero, List.set_cons_succ]
    -- 12: t17 := fieldAddr 100 t16 1 : 0   [if ⟨8, true⟩]
    refine wpB_take (i := 12) (v := ?_) (get_of_drop rfl) (by kernel_rfl) (by kernel_rfl) (by kernel_rfl) (by kernel_rfl) (fun _ _ _ h => h) (Or.inl ⟨by rfl, ?_⟩) hHeld ?_
    rotate_left
    · (intro w hSw; (try dsimp only at hSw); go_simp <;> with_reducible rfl)
    try simp only [Act.put, List.setIfInBounds_toArray, List.set_cons_zero, List.set_cons_succ]
    -- 13: t18 := fieldAddr 26 t17 2 : 0   [if ⟨8, true⟩]
    refine wpB_take (i := 13) (v := ?_) (get_of_drop rfl) (by kernel_rfl) (by kernel_rfl) (by kernel_rfl) (by kernel_rfl) (fun _ _ _ h => h) (Or.inl ⟨by rfl, ?_⟩) hHeld ?_
    rotate_left
    · (intro w hSw; (try dsimp only at hSw); go_simp <;> with_reducible rfl)
    try simp only [Act.put, List.setIfInBounds_toArray, List.set_cons_zero, List.set_cons_succ]
    -- 14: t19 := load 3 t18 : 3   [if ⟨8, true⟩]
    refine wpB_take (i := 14) (v := ?_) (get_of_drop rfl) (by kernel_rfl) (by kernel_rfl) (by kernel_rfl) (by kernel_rfl) (fun _ _ _ h => h) (Or.inl ⟨by rfl, ?_⟩) hHeld ?_
    rotate_left
    · (intro w hSw; (try dsimp only at hSw); go_simp <;> with_reducible rfl)
    try simp only [Act.put, List.setIfInBounds_toArray, List.set_cons_zero, List.set_cons_succ]
    -- 15: t20 := slice 24 t14 none some t19 none : 24   [if ⟨8, true⟩]
    refine wpB_take (i := 15) (v := ?_) (get_of_drop rfl) (by kernel_rfl) (by kernel_rfl) (by kernel_rfl) (by kernel_rfl) (fun _ _ _ h => h) (Or.inl ⟨by rfl, ?_⟩) hHeld ?_
    rotate_left
    · (intro w hSw; (try dsimp only at hSw); go_simp <;> with_reducible rfl)
    try simp only [Act.put, List.setIfInBounds_toArray, List.set_cons_zero, List.set_cons_succ]
    -- 16: t21 := move t0 : 30   [if ⟨8, true⟩]
    refine wpB_take (i := 16) (v := ?_) (get_of_drop rfl) (by kernel_rfl) (by kernel_rfl) (by kernel_rfl) (by kernel_rfl) (fun _ _ _ h => h) (Or.inl ⟨by rfl, ?_⟩) hHeld ?_
    rotate_left
    · (intro w hSw; (try dsimp only at hSw); go_simp <;> with_reducible rfl)
    try simp only [Act.put, List.setIfInBounds_toArray, List.set_cons_zero, List.set_cons_succ]
    -- 17: t22 := nilCheck t21 : 0   [if ⟨8, true⟩]
    refine wpB_take (i := 17) (v := ?_) (get_of_drop rfl) (by kernel_rfl) (by kernel_rfl) (by kernel_rfl) (by kernel_rfl) (fun _ _ _ h => h) (Or.inl ⟨by rfl, ?_⟩) hHeld ?_
    rotate_left
    · (intro w hSw; (try dsimp only at hSw); go_simp <;> with_reducible rfl)
    try simp only [Act.put, List.setIfInBounds_toArray, List.set_cons_zero, List.set_cons_succ]
    -- 18: t23 := fieldAddr 100 t22 1 : 0   [if ⟨8, true⟩]
    refine wpB_take (i := 18) (v := ?_) (get_of_drop rfl) (by kernel_rfl) (by kernel_rfl) (by kernel_rfl) (by kernel_rfl) (fun _ _ _ h => h) (Or.inl ⟨by rfl, ?_⟩) hHeld ?_
    rotate_left
    · (intro w hSw; (try dsimp only at hSw); go_simp <;> with_reducible rfl)
    try simp only [Act.put, List.setIfInBounds_toArray, List.set_cons_zero, List.set_cons_succ]
    -- 19: t24 := fieldAddr 26 t23 4 : 0   [if ⟨8, true⟩]
    refine wpB_take (i := 19) (v := ?_) (get_of_drop rfl) (by kernel_rfl) (by kernel_rfl) (by kernel_rfl) (by kernel_rfl) (fun _ _ _ h => h) (Or.inl ⟨by rfl, ?_⟩) hHeld ?_
    rotate_left
    · (intro w hSw; (try dsimp only at hSw); go_simp <;> with_reducible rfl)
    try simp only [Act.put, List.setIfInBounds_toArray, List.set_cons_zero, List.set_cons_succ]
    -- 20: t25 := load 24 t24 : 24   [if ⟨8, true⟩]
    refine wpB_take (i := 20) (v := ?_) (get_of_drop rfl) (by kernel_rfl) (by kernel_rfl) (by kernel_rfl) (by kernel_rfl) (fun _ _ _ h => h) (Or.inl ⟨by rfl, ?_⟩) hHeld ?_
    rotate_left
    · (intro w hSw; (try dsimp only at hSw); go_simp <;> with_reducible rfl)
    try simp only [Act.put, List.setIfInBounds_toArray, List.set_cons_zero, List.set_cons_succ]
    -- 21: t26 := move t0 : 30   [if ⟨8, true⟩]
    refine wpB_take (i := 21) (v := ?_) (get_of_drop rfl) (by kernel_rfl) (by kernel_rfl) (by kernel_rfl) (by kernel_rfl) (fun _ _ _ h => h) (Or.inl ⟨by rfl, ?_⟩) hHeld ?_
    rotate_left
    · (intro w hSw; (try dsimp only at hSw); go_simp <;> with_reducible rfl)
    try simp only [Act.put, List.setIfInBounds_toArray, List.set_cons_zero, List.set_cons_succ]
    -- 22: t27 := nilCheck t26 : 0   [if ⟨8, true⟩]
    refine wpB_take (i := 22) (v := ?_) (get_of_drop rfl) (by kernel_rfl) (by kernel_rfl) (by kernel_rfl) (by kernel_rfl) (fun _ _ _ h => h) (Or.inl ⟨by rfl, ?_⟩) hHeld ?_
    rotate_left
    · (intro w hSw; (try dsimp only at hSw); go_simp <;> with_reducible rfl)
    try simp only [Act.put, List.setIfInBounds_toArray, List.set_cons_zero, List.set_cons_succ]
    -- 23: t28 := fieldAddr 100 t27 1 : 0   [if ⟨8, true⟩]
    refine wpB_take (i := 23) (v := ?_) (get_of_drop rfl) (by kernel_rfl) (by kernel_rfl) (by kernel_rfl) (by kernel_rfl) (fun _ _ _ h => h) (Or.inl ⟨by rfl, ?_⟩) hHeld ?_
    rotate_left
    · (intro w hSw; (try dsimp only at hSw); go_simp <;> with_reducible rfl)
    try simp only [Act.put, List.setIfInBounds_toArray, List.set_cons_zero, List.set_cons_succ]
    -- 24: t29 := fieldAddr 26 t28 2 : 0   [if ⟨8, true⟩]
    refine wpB_take (i := 24) (v := ?_) (get_of_drop rfl) (by kernel_rfl) (by kernel_rfl) (by kernel_rfl) (by kernel_rfl) (fun _ _ _ h => h) (Or.inl ⟨by rfl, ?_⟩) hHeld ?_
    rotate_left
    · (intro w hSw; (try dsimp only at hSw); go_simp <;> with_reducible rfl)
    try simp only [Act.put, List.setIfInBounds_toArray, List.set_cons_zero, List.set_cons_succ]
    -- 25: t30 := load 3 t29 : 3   [if ⟨8, true⟩]
    refine wpB_take (i := 25) (v := ?_) (get_of_drop rfl) (by kernel_rfl) (by kernel_rfl) (by kernel_rfl) (by kernel_rfl) (fun _ _ _ h => h) (Or.inl ⟨by rfl, ?_⟩) hHeld ?_
    rotate_left
    · (intro w hSw; (try dsimp only at hSw); go_simp <;> with_reducible rfl)
    try simp only [Act.put, List.setIfInBounds_toArray, List.set_cons_zero, List.set_cons_succ]
    -- 26: t31 := slice 24 t25 none some t30 none : 24   [if ⟨8, true⟩]
    refine wpB_take (i := 26) (v := ?_) (get_of_drop rfl) (by kernel_rfl) (by kernel_rfl) (by kernel_rfl) (by kernel_rfl) (fun _ _ _ h => h) (Or.inl ⟨by rfl, ?_⟩) hHeld ?_
    rotate_left
    · (intro w hSw; (try dsimp only at hSw); go_simp <;> with_reducible rfl)
    try simp only [Act.put, List.setIfInBounds_toArray, List.set_cons_zero, List.set_cons_succ]
    -- 27: t32 := CALL fn35(t20, t31) : 4   [if ⟨8, true⟩]
    refine wpB_act (i := 27) (by kernel_rfl) (get_of_drop rfl) (fun K hK => ?_)
    go_simp
    refine (Same_any ((HM.out.chg hHeld (fun _ _ h => h)).to_ HGE.out) ((H.out.log.chg hHeld (fun _ _ h => h)).to_ HQN.out)).mono ?_
    rintro e' wy ⟨rfl, hwy⟩
    have HW := hid (show Chg (fun _ => False) w wy from hHeld.trans hwy (fun _ h _ => h))
    refine hK.out _ _ ?_ (fun hHeld2 => ?_)
    · first | assumption | exact HW.out
    clear hHeld hK K
    have hHeld := hHeld2
    clear hHeld2
    try simp only [Act.put, List.setIfInBounds_toArray, List.set_cons_zero, List.set_cons_succ]
    -- 28: t33 := pick t13 t32 #false : 4
    refine wpB_take (i := 28) (v := ?_) (get_of_drop rfl) (by kernel_rfl) (by kernel_rfl) (by kernel_rfl) (by kernel_rfl) (fun _ _ _ h => h) (Or.inl ⟨by rfl, ?_⟩) hHeld ?_
    rotate_left
    · (intro w hSw; (try dsimp only at hSw); go_simp <;> with_reducible rfl)
    try simp only [Act.put, List.setIfInBounds_toArray, List.set_cons_zero, List.set_cons_succ]
    -- 29: t4 := assign t33 : 4
    refine wpB_take (i := 29) (v := ?_) (get_of_drop rfl) (by kernel_rfl) (by kernel_rfl) (by kernel_rfl) (by kernel_rfl) (fun _ _ _ h => h) (Or.inl ⟨by rfl, ?_⟩) hHeld ?_
    rotate_left
    · (intro w hSw; (try dsimp only at hSw); go_simp <;> with_reducible rfl)
    try simp only [Act.put, List.setIfInBounds_toArray, List.set_cons_zero, List.set_cons_succ]
    refine wpB_done (by kernel_rfl) ?_ _
    go_wp2_with fail
    go_ret
    exact ⟨by rw [HF.out]; rfl, hHeld⟩
  · have hge1 : ¬ (q : Int) ≤ (k : Int) := by omega
    have hge2 : (k : Int) < (q : Int) := by omega
    replace HF := hid (show fitsR r l = false by rw [HF.out, decide_eq_false (by omega : ¬ (q : Int) ≤ (l.length : Int))]; rfl)
    clear hm hk
    go_enter Try.func91, Try.ntmps91
    go_wp2_with fail
    refine wpB_start (fun wx : World => Chg (fun _ => False) w wx) (by kernel_rfl) ?_
    have hHeld : (fun wx : World => Chg (fun _ => False) w wx) _ := (Chg.refl (fun _ => False) w).drew
    -- 0: t5 := move t1 : 24
    refine wpB_take (i := 0) (v := ?_) (get_of_drop rfl) (by kernel_rfl) (by kernel_rfl) (by kernel_rfl) (by kernel_rfl) (fun _ _ _ h => h) (Or.inl ⟨by rfl, ?_⟩) hHeld ?_
    rotate_left
    · (intro w hSw; (try dsimp only at hSw); go_simp <;> with_reducible rfl)
    try simp only [Act.put, List.setIfInBounds_toArray, List.set_cons_zero, List.set_cons_succ]
    -- 1: t6 := len(t5) types [24] : 3
    refine wpB_take (i := 1) (v := ?_) (get_of_drop rfl) (by kernel_rfl) (by kernel_rfl) (by kernel_rfl) (by kernel_rfl) (fun _ _ _ h => h) (Or.inl ⟨by rfl, ?_⟩) hHeld ?_
    rotate_left
    · (intro w hSw; (try dsimp only at hSw); go_simp <;> with_reducible rfl)
    try simp only [Act.put, List.setIfInBounds_toArray, List.set_cons_zero, List.set_cons_succ]
    -- 2: t7 := move t0 : 30
    refine wpB_take (i := 2) (v := ?_) (get_of_drop rfl) (by kernel_rfl) (by kernel_rfl) (by kernel_rfl) (by kernel_rfl) (fun _ _ _ h => h) (Or.inl ⟨by rfl, ?_⟩) hHeld ?_
    rotate_left
    · (intro w hSw; (try dsimp only at hSw); go_simp <;> with_reducible rfl)
    try simp only [Act.put, List.setIfInBounds_toArray, List.set_cons_zero, List.set_cons_succ]
    -- 3: t8 := nilCheck t7 : 0
    refine wpB_take (i := 3) (v := ?_) (get_of_drop rfl) (by kernel_rfl) (by kernel_rfl) (by kernel_rfl) (by kernel_rfl) (fun _ _ _ h => h) (Or.inl ⟨by rfl, ?_⟩) hHeld ?_
    rotate_left
    · (intro w hSw; (try dsimp only at hSw); go_simp <;> with_reducible rfl)
    try simp only [Act.put, List.setIfInBounds_toArray, List.set_cons_zero, List.set_cons_succ]
    -- 4: t9 := fieldAddr 100 t8 1 : 0
    refine wpB_take (i := 4) (v := ?_) (get_of_drop rfl) (by kernel_rfl) (by kernel_rfl) (by kernel_rfl) (by kernel_rfl) (fun _ _ _ h => h) (Or.inl ⟨by rfl, ?_⟩) hHeld ?_
    rotate_left
    · (intro w hSw; (try dsimp only at hSw); go_simp <;> with_reducible rfl)
    try simp only [Act.put, List.setIfInBounds_toArray, List.set_cons_zero, List.set_cons_succ]
    -- 5: t10 := fieldAddr 26 t9 2 : 0
    refine wpB_take (i := 5) (v := ?_) (get_of_drop rfl) (by kernel_rfl) (by kernel_rfl) (by kernel_rfl) (by kernel_rfl) (fun _ _ _ h => h) (Or.inl ⟨by rfl, ?_⟩) hHeld ?_
    rotate_left
    · (intro w hSw; (try dsimp only at hSw); go_simp <;> with_reducible rfl)
    try simp only [Act.put, List.setIfInBounds_toArray, List.set_cons_zero, List.set_cons_succ]
    -- 6: t11 := load 3 t10 : 3
    refine wpB_take (i := 6) (v := ?_) (get_of_drop rfl) (by kernel_rfl) (by kernel_rfl) (by kernel_rfl) (by kernel_rfl) (fun _ _ _ h => h) (Or.inl ⟨by rfl, ?_⟩) hHeld ?_
    rotate_left
    · (intro w hSw; (try dsimp only at hSw); go_simp <;> with_reducible rfl)
    try simp only [Act.put, List.setIfInBounds_toArray, List.set_cons_zero, List.set_cons_succ]
    -- 7: t12 := binOp BinOp.geq 3 t6 t11 3 : 4
    refine wpB_take (i := 7) (v := ?_) (get_of_drop rfl) (by kernel_rfl) (by kernel_rfl) (by kernel_rfl) (by kernel_rfl) (fun _ _ _ h => h) (Or.inl ⟨by rfl, ?_⟩) hHeld ?_
    rotate_left
    · (intro w hSw; (try dsimp only at hSw); go_simp <;> with_reducible rfl)
    try simp only [Act.put, List.setIfInBounds_toArray, List.set_cons_zero, List.set_cons_succ]
    -- 8: t13 := move t12 : 4
    refine wpB_take (i := 8) (v := ?_) (get_of_drop rfl) (by kernel_rfl) (by kernel_rfl) (by kernel_rfl) (by kernel_rfl) (fun _ _ _ h => h) (Or.inl ⟨by rfl, ?_⟩) hHeld ?_
    rotate_left
    · (intro w hSw; (try dsimp only at hSw); go_simp <;> with_reducible rfl)
    try simp only [Act.put, List.setIfInBounds_toArray, List.set_cons_zero, List.set_cons_succ]
    -- 9: t14 := move t1 : 24   [if ⟨8, true⟩]
    refine wpB_take (i := 9) (v := undef) (get_of_drop rfl) (by kernel_rfl) (by kernel_rfl) (by kernel_rfl) (by kernel_rfl) (fun _ _ _ h => h) (Or.inr ⟨by rfl, rfl⟩) hHeld ?_
    try simp only [Act.put, List.setIfInBounds_toArray, List.set_cons_zero, List.set_cons_succ]
    -- 10: t15 := move t0 : 30   [if ⟨8, true⟩]
    refine wpB_take (i := 10) (v := undef) (get_of_drop rfl) (by kernel_rfl) (by kernel_rfl) (by kernel_rfl) (by kernel_rfl) (fun _ _ _ h => h) (Or.inr ⟨by rfl, rfl⟩) hHeld ?_
    try simp only [Act.put, List.setIfInBounds_toArray, List.set_cons_zero, List.set_cons_succ]
    -- 11: t16 := nilCheck t15 : 0   [if ⟨8, true⟩]
    refine wpB_take (i := 11) (v := undef) (get_of_drop rfl) (by kernel_rfl) (by kernel_rfl) (by kernel_rfl) (by kernel_rfl) (fun _ _ _ h => h) (Or.inr ⟨by rfl, rfl⟩) hHeld ?_
    try simp only [Act.put, List.setIfInBounds_toArray, List.set_cons_zero, List.set_cons_succ]
    -- 12: t17 := fieldAddr 100 t16 1 : 0   [if ⟨8, true⟩]
    refine wpB_take (i := 12) (v := undef) (get_of_drop rfl) (by kernel_rfl) (by kernel_rfl) (by kernel_rfl) (by kernel_rfl) (fun _ _ _ h => h) (Or.inr ⟨by rfl, rfl⟩) hHeld ?_
    try simp only [Act.put, List.setIfInBounds_toArray, List.set_cons_zero, List.set_cons_succ]
    -- 13: t18 := fieldAddr 26 t17 2 : 0   [if ⟨8, true⟩]
    refine wpB_take (i := 13) (v := undef) (get_of_drop rfl) (by kernel_rfl) (by kernel_rfl) (by kernel_rfl) (by kernel_rfl) (fun _ _ _ h => h) (Or.inr ⟨by rfl, rfl⟩) hHeld ?_
    try simp only [Act.put, List.setIfInBounds_toArray, List.set_cons_zero, List.set_cons_succ]
    -- 14: t19 := load 3 t18 : 3   [if ⟨8, true⟩]
    refine wpB_take (i := 14) (v := undef) (get_of_drop rfl) (by kernel_rfl) (by kernel_rfl) (by kernel_rfl) (by kernel_rfl) (fun _ _ _ h => h) (Or.inr ⟨by rfl, rfl⟩) hHeld ?_
    try simp only [Act.put, List.setIfInBounds_toArray, List.set_cons_zero, List.set_cons_succ]
    -- 15: t20 := slice 24 t14 none some t19 none : 24   [if ⟨8, true⟩]
    refine wpB_take (i := 15) (v := undef) (get_of_drop rfl) (by kernel_rfl) (by kernel_rfl) (by kernel_rfl) (by kernel_rfl) (fun _ _ _ h => h) (Or.inr ⟨by rfl, rfl⟩) hHeld ?_
    try simp only [Act.put, List.setIfInBounds_toArray, List.set_cons_zero, List.set_cons_succ]
    -- 16: t21 := move t0 : 30   [if ⟨8, true⟩]
    refine wpB_take (i := 16) (v := undef) (get_of_drop rfl) (by kernel_rfl) (by kernel_rfl) (by kernel_rfl) (by kernel_rfl) (fun _ _ _ h => h) (Or.inr ⟨by rfl, rfl⟩) hHeld ?_
    try simp only [Act.put, List.setIfInBounds_toArray, List.set_cons_zero, List.set_cons_succ]
    -- 17: t22 := nilCheck t21 : 0   [if ⟨8, true⟩]
    refine wpB_take (i := 17) (v := undef) (get_of_drop rfl) (by kernel_rfl) (by kernel_rfl) (by kernel_rfl) (by kernel_rfl) (fun _ _ _ h => h) (Or.inr ⟨by rfl, rfl⟩) hHeld ?_
    try simp only [Act.put, List.setIfInBounds_toArray, List.set_cons_zero, List.set_cons_succ]
    -- 18: t23 := fieldAddr 100 t22 1 : 0   [if ⟨8, true⟩]
    refine wpB_take (i := 18) (v := undef) (get_of_drop rfl) (by kernel_rfl) (by kernel_rfl) (by kernel_rfl) (by kernel_rfl) (fun _ _ _ h => h) (Or.inr ⟨by rfl, rfl⟩) hHeld ?_
    try simp only [Act.put, List.setIfInBounds_toArray, List.set_cons_zero, List.set_cons_succ]
    -- 19: t24 := fieldAddr 26 t23 4 : 0   [if ⟨8, true⟩]
    refine wpB_take (i := 19) (v := undef) (get_of_drop rfl) (by kernel_rfl) (by kernel_rfl) (by kernel_rfl) (by kernel_rfl) (fun _ _ _ h => h) (Or.inr ⟨by rfl, rfl⟩) hHeld ?_
    try simp only [Act.put, List.setIfInBounds_toArray, List.set_cons_zero, List.set_cons_succ]
    -- 20: t25 := load 24 t24 : 24   [if ⟨8, true⟩]
    refine wpB_take (i := 20) (v := undef) (get_of_drop rfl) (by kernel_rfl) (by kernel_rfl) (by kernel_rfl) (by kernel_rfl) (fun _ _ _ h => h) (Or.inr ⟨by rfl, rfl⟩) hHeld ?_
    try simp only [Act.put, List.setIfInBounds_toArray, List.set_cons_zero, List.set_cons_succ]
    -- 21: t26 := move t0 : 30   [if ⟨8, true⟩]
    refine wpB_take (i := 21) (v := undef) (get_of_drop rfl) (by kernel_rfl) (by kernel_rfl) (by kernel_rfl) (by kernel_rfl) (fun _ _ _ h => h) (Or.inr ⟨by rfl, rfl⟩) hHeld ?_
    try simp only [Act.put, List.setIfInBounds_toArray, List.set_cons_zero, List.set_cons_succ]
    -- 22: t27 := nilCheck t26 : 0   [if ⟨8, true⟩]
    refine wpB_take (i := 22) (v := undef) (get_of_drop rfl) (by kernel_rfl) (by kernel_rfl) (by kernel_rfl) (by kernel_rfl) (fun _ _ _ h => h) (Or.inr ⟨by rfl, rfl⟩) hHeld ?_
    try simp only [Act.put, List.setIfInBounds_toArray, List.set_cons_zero, List.set_cons_succ]
    -- 23: t28 := fieldAddr 100 t27 1 : 0   [if ⟨8, true⟩]
    refine wpB_take (i := 23) (v := undef) (get_of_drop rfl) (by kernel_rfl) (by kernel_rfl) (by kernel_rfl) (by kernel_rfl) (fun _ _ _ h => h) (Or.inr ⟨by rfl, rfl⟩) hHeld ?_
    try simp only [Act.put, List.setIfInBounds_toArray, List.set_cons_zero, List.set_cons_succ]
    -- 24: t29 := fieldAddr 26 t28 2 : 0   [if ⟨8, true⟩]
    refine wpB_take (i := 24) (v := undef) (get_of_drop rfl) (by kernel_rfl) (by kernel_rfl) (by kernel_rfl) (by kernel_rfl) (fun _ _ _ h => h) (Or.inr ⟨by rfl, rfl⟩) hHeld ?_
    try simp only [Act.put, List.setIfInBounds_toArray, List.set_cons_zero, List.set_cons_succ]
    -- 25: t30 := load 3 t29 : 3   [if ⟨8, true⟩]
    refine wpB_take (i := 25) (v := undef) (get_of_drop rfl) (by kernel_rfl) (by kernel_rfl) (by kernel_rfl) (by kernel_rfl) (fun _ _ _ h => h) (Or.inr ⟨by rfl, rfl⟩) hHeld ?_
    try simp only [Act.put, List.setIfInBounds_toArray, List.set_cons_zero, List.set_cons_succ]
    -- 26: t31 := slice 24 t25 none some t30 none : 24   [if ⟨8, true⟩]
    refine wpB_take (i := 26) (v := undef) (get_of_drop rfl) (by kernel_rfl) (by kernel_rfl) (by kernel_rfl) (by kernel_rfl) (fun _ _ _ h => h) (Or.inr ⟨by rfl, rfl⟩) hHeld ?_
    try simp only [Act.put, List.setIfInBounds_toArray, List.set_cons_zero, List.set_cons_succ]
    -- 27: t32 := CALL fn35(t20, t31) : 4   [if ⟨8, true⟩]
    refine wpB_take (i := 27) (v := undef) (get_of_drop rfl) (by kernel_rfl) (by kernel_rfl) (by kernel_rfl) (by kernel_rfl) (fun _ _ _ h => h) (Or.inr ⟨by rfl, rfl⟩) hHeld ?_
    try simp only [Act.put, List.setIfInBounds_toArray, List.set_cons_zero, List.set_cons_succ]
    -- 28: t33 := pick t13 t32 #false : 4
    refine wpB_take (i := 28) (v := ?_) (get_of_drop rfl) (by kernel_rfl) (by kernel_rfl) (by kernel_rfl) (by kernel_rfl) (fun _ _ _ h => h) (Or.inl ⟨by rfl, ?_⟩) hHeld ?_
    rotate_left
    · (intro w hSw; (try dsimp only at hSw); go_simp <;> with_reducible rfl)
    try simp only [Act.put, List.setIfInBounds_toArray, List.set_cons_zero, List.set_cons_succ]
    -- 29: t4 := assign t33 : 4
    refine wpB_take (i := 29) (v := ?_) (get_of_drop rfl) (by kernel_rfl) (by kernel_rfl) (by kernel_rfl) (by kernel_rfl) (fun _ _ _ h => h) (Or.inl ⟨by rfl, ?_⟩) hHeld ?_
    rotate_left
    · (intro w hSw; (try dsimp only at hSw); go_simp <;> with_reducible rfl)
    try simp only [Act.put, List.setIfInBounds_toArray, List.set_cons_zero, List.set_cons_succ]
    refine wpB_done (by kernel_rfl) ?_ _
    go_wp2_with fail
    go_ret
    exact ⟨by rw [HF.out]; rfl, hHeld⟩
set_option maxHeartbeats 4000000 in
set_option maxRecDepth 100000 in
theorem extends_any {w0 w : World} {p b1 b2 b3 : Nat} {X : Nat → Prop} {r : Rp} {A : Option Addr} {n c : Nat} {O : Value} (h : Rep w0 w p b1 b2 b3 X r A n c O) {l : List Entry} {R : Nat → Prop} {B : Option Addr} {k d : Nat} (hm : Ty.At entryK w R B k d l) (hn : n ≤ 64) :
    Calls Try.prog 55 #[.pointer (some ⟨p, 0, none⟩), .slice B k d] w fun e' w' => e' = .returned (.bool (extendsR r l)) ∧ Chg (fun _ => False) w w' := by
  have H := hid h
  have BP := hid h.blk
  have HM := hid hm
  have HN := hid hn
  have HF := hid (show extendsR r l = (decide (n < k) && decide (l.take n = r.s.log)) by unfold extendsR; rw [← h.log.1, ← hm.1])
  have U_7 : ∀ wx, Chg (fun _ => False) w wx → wx.cell? ⟨p, 7, none⟩ = some (.slice A n c) := fun wx hx => (cellAt (hx.blk BP.out (fun h => h)) 7).trans rfl
  clear h
  by_cases hge : n < k
  · have hge1 : (n : Int) < (k : Int) := by omega
    have hcutB := fun W => cut_to (P := Try.prog) 24 56 .i64 Try.underlying24 (info_parts infoEntryP).choose_spec.1 B k d n (by have := hm.2.1; omega) W
    replace HF := hid (show extendsR r l = decide (l.take n = r.s.log) by rw [HF.out, decide_eq_true hge]; rfl)
    have HGE := hid hge
    clear hm hge hn
    go_enter Try.func55, Try.ntmps55
    go_wp2_with fail
    refine wpB_start (fun wx : World => Chg (fun _ => False) w wx) (by kernel_rfl) ?_
    have hHeld : (fun wx : World => Chg (fun _ => False) w wx) _ := (Chg.refl (fun _ => False) w).drew
    -- 0: t5 := move t1 : 24
    refine wpB_take (i := 0) (v := ?_) (get_of_drop rfl) (by kernel_rfl) (by kernel_rfl) (by kernel_rfl) (by kernel_rfl) (fun _ _ _ h => h) (Or.inl ⟨by rfl, ?_⟩) hHeld ?_
    rotate_left
    · (intro w hSw; (try dsimp only at hSw); go_simp <;> with_reducible rfl)
    try simp only [Act.put, List.setIfInBounds_toArray, List.set_cons_zero, List.set_cons_succ]
    -- 1: t6 := len(t5) types [24] : 3
    refine wpB_take (i := 1) (v := ?_) (get_of_drop rfl) (by kernel_rfl) (by kernel_rfl) (by kernel_rfl) (by kernel_rfl) (fun _ _ _ h => h) (Or.inl ⟨by rfl, ?_⟩) hHeld ?_
    rotate_left
    · (intro w hSw; (try dsimp only at hSw); go_simp <;> with_reducible rfl)
    try simp only [Act.put, List.setIfInBounds_toArray, List.set_cons_zero, List.set_cons_succ]
    -- 2: t7 := move t0 : 30
    refine wpB_take (i := 2) (v := ?_) (get_of_drop rfl) (by kernel_rfl) (by kernel_rfl) (by kernel_rfl) (by kernel_rfl) (fun _ _ _ h => h) (Or.inl ⟨by rfl, ?_⟩) hHeld ?_
    rotate_left
    · (intro w hSw; (try dsimp only at hSw); go_simp <;> with_reducible rfl)
    try simp only [Act.put, List.setIfInBounds_toArray, List.set_cons_zero, List.set_cons_succ]
    -- 3: t8 := CALL fn76(t7) : 3
    refine wpB_act (i := 3) (by kernel_rfl) (get_of_drop rfl) (fun K hK => ?_)
    go_simp
    refine (length_any (H.out.far hHeld) HN.out).mono ?_
    rintro e' wy ⟨rfl, rfl⟩
    refine hK.out _ _ ?_ (fun hHeld2 => ?_)
    · first | assumption | exact HW.out
    clear hHeld hK K
    have hHeld := hHeld2
    clear hHeld2
    try simp only [Act.put, List.setIfInBounds_toArray, List.set_cons_zero, List.set_cons_succ]
    -- 4: t9 := binOp BinOp.gtr 3 t6 t8 3 : 4
    refine wpB_take (i := 4) (v := ?_) (get_of_drop rfl) (by kernel_rfl) (by kernel_rfl) (by kernel_rfl) (by kernel_rfl) (fun _ _ _ h => h) (Or.inl ⟨by rfl, ?_⟩) hHeld ?_
    rotate_left
    · (intro w hSw; (try dsimp only at hSw); go_simp <;> with_reducible rfl)
    try simp only [Act.put, List.setIfInBounds_toArray, List.set_cons_zero, List.set_cons_succ]
    -- 5: t10 := move t9 : 4
    refine wpB_take (i := 5) (v := ?_) (get_of_drop rfl) (by kernel_rfl) (by kernel_rfl) (by kernel_rfl) (by kernel_rfl) (fun _ _ _ h => h) (Or.inl ⟨by rfl, ?_⟩) hHeld ?_
    rotate_left
    · (intro w hSw; (try dsimp only at hSw); go_simp <;> with_reducible rfl)
    try simp only [Act.put, List.setIfInBounds_toArray, List.set_cons_zero, List.set_cons_succ]
    -- 6: t11 := move t1 : 24   [if ⟨5, true⟩]
    refine wpB_take (i := 6) (v := ?_) (get_of_drop rfl) (by kernel_rfl) (by kernel_rfl) (by kernel_rfl) (by kernel_rfl) (fun _ _ _ h => h) (Or.inl ⟨by rfl, ?_⟩) hHeld ?_
    rotate_left
    · (intro w hSw; (try dsimp only at hSw); go_simp <;> with_reducible rfl)
    try simp only [Act.put, List.setIfInBounds_toArray, List.set_cons_zero, List.set_cons_succ]
    -- 7: t12 := move t0 : 30   [if ⟨5, true⟩]
    refine wpB_take (i := 7) (v := ?_) (get_of_drop rfl) (by kernel_rfl) (by kernel_rfl) (by kernel_rfl) (by kernel_rfl) (fun _ _ _ h => h) (Or.inl ⟨by rfl, ?_⟩) hHeld ?_
    rotate_left
    · (intro w hSw; (try dsimp only at hSw); go_simp <;> with_reducible rfl)
    try simp only [Act.put, List.setIfInBounds_toArray, List.set_cons_zero, List.set_cons_succ]
    -- 10: t15 := move t0 : 30   [if ⟨5, true⟩]
    refine wpB_take (i := 10) (v := ?_) (get_of_drop rfl) (by kernel_rfl) (by kernel_rfl) (by kernel_rfl) (by kernel_rfl) (fun _ _ _ h => h) (Or.inl ⟨by rfl, ?_⟩) hHeld ?_
    rotate_left
    · (intro w hSw; (try dsimp only at hSw); go_simp <;> with_reducible rfl)
    try simp only [Act.put, List.setIfInBounds_toArray, List.set_cons_zero, List.set_cons_succ]
    -- 11: t16 := nilCheck t15 : 0   [if ⟨5, true⟩]
    refine wpB_take (i := 11) (v := ?_) (get_of_drop rfl) (by kernel_rfl) (by kernel_rfl) (by kernel_rfl) (by kernel_rfl) (fun _ _ _ h => h) (Or.inl ⟨by rfl, ?_⟩) hHeld ?_
    rotate_left
    · (intro w hSw; (try dsimp only at hSw); go_simp <;> with_reducible rfl)
    try simp only [Act.put, List.setIfInBounds_toArray, List.set_cons_zero, List.set_cons_succ]
    -- 12: t17 := fieldAddr 100 t16 1 : 0   [if ⟨5, true⟩]
    refine wpB_take (i := 12) (v := ?_) (get_of_drop rfl) (by kernel_rfl) (by kernel_rfl) (by kernel_rfl) (by kernel_rfl) (fun _ _ _ h => h) (Or.inl ⟨by rfl, ?_⟩) hHeld ?_
    rotate_left
    · (intro w hSw; (try dsimp only at hSw); go_simp <;> with_reducible rfl)
    try simp only [Act.put, List.setIfInBounds_toArray, List.set_cons_zero, List.set_cons_succ]
    -- 13: t18 := fieldAddr 26 t17 4 : 0   [if ⟨5, true⟩]
    refine wpB_take (i := 13) (v := ?_) (get_of_drop rfl) (by kernel_rfl) (by kernel_rfl) (by kernel_rfl) (by kernel_rfl) (fun _ _ _ h => h) (Or.inl ⟨by rfl, ?_⟩) hHeld ?_
    rotate_left
    · (intro w hSw; (try dsimp only at hSw); go_simp <;> with_reducible rfl)
    try simp only [Act.put, List.setIfInBounds_toArray, List.set_cons_zero, List.set_cons_succ]
    -- 14: t19 := load 24 t18 : 24   [if ⟨5, true⟩]
    refine wpB_take (i := 14) (v := ?_) (get_of_drop rfl) (by kernel_rfl) (by kernel_rfl) (by kernel_rfl) (by kernel_rfl) (fun _ _ _ h => h) (Or.inl ⟨by rfl, ?_⟩) hHeld ?_
    rotate_left
    · (intro w hSw; (try dsimp only at hSw); go_simp <;> with_reducible rfl)
    try simp only [Act.put, List.setIfInBounds_toArray, List.set_cons_zero, List.set_cons_succ]
    -- 8: t13 := CALL fn76(t12) : 3   [if ⟨5, true⟩]
    refine wpB_act (i := 8) (by kernel_rfl) (get_of_drop rfl) (fun K hK => ?_)
    go_simp
    refine (length_any (H.out.far hHeld) HN.out).mono ?_
    rintro e' wy ⟨rfl, rfl⟩
    refine hK.out _ _ ?_ (fun hHeld2 => ?_)
    · first | assumption | exact HW.out
    clear hHeld hK K
    have hHeld := hHeld2
    clear hHeld2
    try simp only [Act.put, List.setIfInBounds_toArray, List.set_cons_zero, List.set_cons_succ]
    -- 9: t14 := slice 24 t11 none some t13 none : 24   [if ⟨5, true⟩]
    refine wpB_take (i := 9) (v := ?_) (get_of_drop rfl) (by kernel_rfl) (by kernel_rfl) (by kernel_rfl) (by kernel_rfl) (fun _ _ _ h => h) (Or.inl ⟨by rfl, ?_⟩) hHeld ?_
    rotate_left
    · (intro w hSw; (try dsimp only at hSw); go_simp <;> with_reducible rfl)
    try simp only [Act.put, List.setIfInBounds_toArray, List.set_cons_zero, List.set_cons_succ]
    -- 15: t20 := CALL fn35(t14, t19) : 4   [if ⟨5, true⟩]
    refine wpB_act (i := 15) (by kernel_rfl) (get_of_drop rfl) (fun K hK => ?_)
    go_simp
    refine (Same_any ((HM.out.chg hHeld (fun _ _ h => h)).to_ (Nat.le_of_lt HGE.out)) (H.out.log.chg hHeld (fun _ _ h => h))).mono ?_
    rintro e' wy ⟨rfl, hwy⟩
    have HW := hid (show Chg (fun _ => False) w wy from hHeld.trans hwy (fun _ h _ => h))
    refine hK.out _ _ ?_ (fun hHeld2 => ?_)
    · first | assumption | exact HW.out
    clear hHeld hK K
    have hHeld := hHeld2
    clear hHeld2
    try simp only [Act.put, List.setIfInBounds_toArray, List.set_cons_zero, List.set_cons_succ]
    -- 16: t21 := pick t10 t20 #false : 4
    refine wpB_take (i := 16) (v := ?_) (get_of_drop rfl) (by kernel_rfl) (by kernel_rfl) (by kernel_rfl) (by kernel_rfl) (fun _ _ _ h => h) (Or.inl ⟨by rfl, ?_⟩) hHeld ?_
    rotate_left
    · (intro w hSw; (try dsimp only at hSw); go_simp <;> with_reducible rfl)
    try simp only [Act.put, List.setIfInBounds_toArray, List.set_cons_zero, List.set_cons_succ]
    -- 17: t4 := assign t21 : 4
    refine wpB_take (i := 17) (v := ?_) (get_of_drop rfl) (by kernel_rfl) (by kernel_rfl) (by kernel_rfl) (by kernel_rfl) (fun _ _ _ h => h) (Or.inl ⟨by rfl, ?_⟩) hHeld ?_
    rotate_left
    · (intro w hSw; (try dsimp only at hSw); go_simp <;> with_reducible rfl)
    try simp only [Act.put, List.setIfInBounds_toArray, List.set_cons_zero, List.set_cons_succ]
    refine wpB_done (by kernel_rfl) ?_ _
    go_wp2_with fail
    go_ret
    exact ⟨by rw [HF.out]; rfl, hHeld⟩
  · have hge1 : ¬ (n : Int) < (k : Int) := by omega
    replace HF := hid (show extendsR r l = false by rw [HF.out, decide_eq_false hge]; rfl)
    clear hm hn
    go_enter Try.func55, Try.ntmps55
    go_wp2_with fail
    refine wpB_start (fun wx : World => Chg (fun _ => False) w wx) (by kernel_rfl) ?_
    have hHeld : (fun wx : World => Chg (fun _ => False) w wx) _ := (Chg.refl (fun _ => False) w).drew
    -- 0: t5 := move t1 : 24
    refine wpB_take (i := 0) (v := ?_) (get_of_drop rfl) (by kernel_rfl) (by kernel_rfl) (by kernel_rfl) (by kernel_rfl) (fun _ _ _ h => h) (Or.inl ⟨by rfl, ?_⟩) hHeld ?_
    rotate_left
    · (intro w hSw; (try dsimp only at hSw); go_simp <;> with_reducible rfl)
    try simp only [Act.put, List.setIfInBounds_toArray, List.set_cons_zero, List.set_cons_succ]
    -- 1: t6 := len(t5) types [24] : 3
    refine wpB_take (i := 1) (v := ?_) (get_of_drop rfl) (by kernel_rfl) (by kernel_rfl) (by kernel_rfl) (by kernel_rfl) (fun _ _ _ h => h) (Or.inl ⟨by rfl, ?_⟩) hHeld ?_
    rotate_left
    · (intro w hSw; (try dsimp only at hSw); go_simp <;> with_reducible rfl)
    try simp only [Act.put, List.setIfInBounds_toArray, List.set_cons_zero, List.set_cons_succ]
    -- 2: t7 := move t0 : 30
    refine wpB_take (i := 2) (v := ?_) (get_of_drop rfl) (by kernel_rfl) (by kernel_rfl) (by kernel_rfl) (by kernel_rfl) (fun _ _ _ h => h) (Or.inl ⟨by rfl, ?_⟩) hHeld ?_
    rotate_left
    · (intro w hSw; (try dsimp only at hSw); go_simp <;> with_reducible rfl)
    try simp only [Act.put, List.setIfInBounds_toArray, List.set_cons_zero, List.set_cons_succ]
    -- 3: t8 := CALL fn76(t7) : 3
    refine wpB_act (i := 3) (by kernel_rfl) (get_of_drop rfl) (fun K hK => ?_)
    go_simp
    refine (length_any (H.out.far hHeld) HN.out).mono ?_
    rintro e' wy ⟨rfl, rfl⟩
    refine hK.out _ _ ?_ (fun hHeld2 => ?_)
    · first | assumption | exact Chg.alloc hHeld _
    clear hHeld hK K
    have hHeld := hHeld2
    clear hHeld2
    try simp only [Act.put, List.setIfInBounds_toArray, List.set_cons_zero, List.set_cons_succ]
    -- 4: t9 := binOp BinOp.gtr 3 t6 t8 3 : 4
    refine wpB_take (i := 4) (v := ?_) (get_of_drop rfl) (by kernel_rfl) (by kernel_rfl) (by kernel_rfl) (by kernel_rfl) (fun _ _ _ h => h) (Or.inl ⟨by rfl, ?_⟩) hHeld ?_
    rotate_left
    · (intro w hSw; (try dsimp only at hSw); go_simp <;> with_reducible rfl)
    try simp only [Act.put, List.setIfInBounds_toArray, List.set_cons_zero, List.set_cons_succ]
    -- 5: t10 := move t9 : 4
    refine wpB_take (i := 5) (v := ?_) (get_of_drop rfl) (by kernel_rfl) (by kernel_rfl) (by kernel_rfl) (by kernel_rfl) (fun _ _ _ h => h) (Or.inl ⟨by rfl, ?_⟩) hHeld ?_
    rotate_left
    · (intro w hSw; (try dsimp only at hSw); go_simp <;> with_reducible rfl)
    try simp only [Act.put, List.setIfInBounds_toArray, List.set_cons_zero, List.set_cons_succ]
    -- 6: t11 := move t1 : 24   [if ⟨5, true⟩]
    refine wpB_take (i := 6) (v := undef) (get_of_drop rfl) (by kernel_rfl) (by kernel_rfl) (by kernel_rfl) (by kernel_rfl) (fun _ _ _ h => h) (Or.inr ⟨by rfl, rfl⟩) hHeld ?_
    try simp only [Act.put, List.setIfInBounds_toArray, List.set_cons_zero, List.set_cons_succ]
    -- 7: t12 := move t0 : 30   [if ⟨5, true⟩]
    refine wpB_take (i := 7) (v := undef) (get_of_drop rfl) (by kernel_rfl) (by kernel_rfl) (by kernel_rfl) (by kernel_rfl) (fun _ _ _ h => h) (Or.inr ⟨by rfl, rfl⟩) hHeld ?_
    try simp only [Act.put, List.setIfInBounds_toArray, List.set_cons_zero, List.set_cons_succ]
    -- 8: t13 := CALL fn76(t12) : 3   [if ⟨5, true⟩]
    refine wpB_take (i := 8) (v := undef) (get_of_drop rfl) (by kernel_rfl) (by kernel_rfl) (by kernel_rfl) (by kernel_rfl) (fun _ _ _ h => h) (Or.inr ⟨by rfl, rfl⟩) hHeld ?_
    try simp only [Act.put, List.setIfInBounds_toArray, List.set_cons_zero, List.set_cons_succ]
    -- 9: t14 := slice 24 t11 none some t13 none : 24   [if ⟨5, true⟩]
    refine wpB_take (i := 9) (v := undef) (get_of_drop rfl) (by kernel_rfl) (by kernel_rfl) (by kernel_rfl) (by kernel_rfl) (fun _ _ _ h => h) (Or.inr ⟨by rfl, rfl⟩) hHeld ?_
    try simp only [Act.put, List.setIfInBounds_toArray, List.set_cons_zero, List.set_cons_succ]
    -- 10: t15 := move t0 : 30   [if ⟨5, true⟩]
    refine wpB_take (i := 10) (v := undef) (get_of_drop rfl) (by kernel_rfl) (by kernel_rfl) (by kernel_rfl) (by kernel_rfl) (fun _ _ _ h => h) (Or.inr ⟨by rfl, rfl⟩) hHeld ?_
    try simp only [Act.put, List.setIfInBounds_toArray, List.set_cons_zero, List.set_cons_succ]
    -- 11: t16 := nilCheck t15 : 0   [if ⟨5, true⟩]
    refine wpB_take (i := 11) (v := undef) (get_of_drop rfl) (by kernel_rfl) (by kernel_rfl) (by kernel_rfl) (by kernel_rfl) (fun _ _ _ h => h) (Or.inr ⟨by rfl, rfl⟩) hHeld ?_
    try simp only [Act.put, List.setIfInBounds_toArray, List.set_cons_zero, List.set_cons_succ]
    -- 12: t17 := fieldAddr 100 t16 1 : 0   [if ⟨5, true⟩]
    refine wpB_take (i := 12) (v := undef) (get_of_drop rfl) (by kernel_rfl) (by kernel_rfl) (by kernel_rfl) (by kernel_rfl) (fun _ _ _ h => h) (Or.inr ⟨by rfl, rfl⟩) hHeld ?_
    try simp only [Act.put, List.setIfInBounds_toArray, List.set_cons_zero, List.set_cons_succ]
    -- 13: t18 := fieldAddr 26 t17 4 : 0   [if ⟨5, true⟩]
    refine wpB_take (i := 13) (v := undef) (get_of_drop rfl) (by kernel_rfl) (by kernel_rfl) (by kernel_rfl) (by kernel_rfl) (fun _ _ _ h => h) (Or.inr ⟨by rfl, rfl⟩) hHeld ?_
    try simp only [Act.put, List.setIfInBounds_toArray, List.set_cons_zero, List.set_cons_succ]
    -- 14: t19 := load 24 t18 : 24   [if ⟨5, true⟩]
    refine wpB_take (i := 14) (v := undef) (get_of_drop rfl) (by kernel_rfl) (by kernel_rfl) (by kernel_rfl) (by kernel_rfl) (fun _ _ _ h => h) (Or.inr ⟨by rfl, rfl⟩) hHeld ?_
    try simp only [Act.put, List.setIfInBounds_toArray, List.set_cons_zero, List.set_cons_succ]
    -- 15: t20 := CALL fn35(t14, t19) : 4   [if ⟨5, true⟩]
    refine wpB_take (i := 15) (v := undef) (get_of_drop rfl) (by kernel_rfl) (by kernel_rfl) (by kernel_rfl) (by kernel_rfl) (fun _ _ _ h => h) (Or.inr ⟨by rfl, rfl⟩) hHeld ?_
    try simp only [Act.put, List.setIfInBounds_toArray, List.set_cons_zero, List.set_cons_succ]
    -- 16: t21 := pick t10 t20 #false : 4
    refine wpB_take (i := 16) (v := ?_) (get_of_drop rfl) (by kernel_rfl) (by kernel_rfl) (by kernel_rfl) (by kernel_rfl) (fun _ _ _ h => h) (Or.inl ⟨by rfl, ?_⟩) hHeld ?_
    rotate_left
    · (intro w hSw; (try dsimp only at hSw); go_simp <;> with_reducible rfl)
    try simp only [Act.put, List.setIfInBounds_toArray, List.set_cons_zero, List.set_cons_succ]
    -- 17: t4 := assign t21 : 4
    refine wpB_take (i := 17) (v := ?_) (get_of_drop rfl) (by kernel_rfl) (by kernel_rfl) (by kernel_rfl) (by kernel_rfl) (fun _ _ _ h => h) (Or.inl ⟨by rfl, ?_⟩) hHeld ?_
    rotate_left
    · (intro w hSw; (try dsimp only at hSw); go_simp <;> with_reducible rfl)
    try simp only [Act.put, List.setIfInBounds_toArray, List.set_cons_zero, List.set_cons_succ]
    refine wpB_done (by kernel_rfl) ?_ _
    go_wp2_with fail
    go_ret
    exact ⟨by rw [HF.out]; rfl, hHeld⟩
end Go.Proofs.Ytaldoajdhbndhaa.Pa


/- had. -/

namespace Go.Proofs.Ytaldoajdhbndhaa.Pa

set_option linter.unusedVariables false

set_option linter.unusedSimpArgs false

open Go.RowKit Go.Proofs.Ytaldoajdhbndhaa.C

attribute [local go_sem] max2_int min2_int max_two min_two

set_option maxHeartbeats 4000000 in
set_option maxRecDepth 100000 in
theorem had_any {w0 w : World} {p b1 b2 b3 : Nat} {X : Nat → Prop} {r : Rp} {A : Option Addr} {n c : Nat} {O : Value} (h : Rep w0 w p b1 b2 b3 X r A n c O) {e : Entry} {E1 : Option Addr} {m1 d1 : Nat} {E2 : Option Addr} {m2 d2 : Nat} (hn : n ≤ 64) :
    Calls Try.prog 75 #[.pointer (some ⟨p, 0, none⟩), .agg #[.int .i64 e.view, .int .i64 e.client, .int .i64 e.request, .int .i64 e.dflt, .int .i64 e.closed, .int .i64 e.fuel, .int .i64 e.stack, .slice E1 m1 d1, .slice E2 m2 d2]] w fun e' w' => e' = .returned (.int .i64 (hadR r e)) ∧ Chg (fun _ => False) w w' := by
  have H := hid h
  have HPB := hid (lt_of_blk h.blk)
  obtain ⟨w1, hw1⟩ : ∃ q_, q_ = (w.alloc (.cells #[.int .i64 e.view, .int .i64 e.client, .int .i64 e.request, .int .i64 e.dflt, .int .i64 e.closed, .int .i64 e.fuel, .int .i64 e.stack, .slice E1 m1 d1, .slice E2 m2 d2] 56)) := ⟨_, rfl⟩
  have C1 := hid (show Chg (fun _ => False) w w1 by rw [hw1]; exact (Chg.refl _ w).alloc _)
  have BX := hid (show w1.heap[w.heap.size]? = some (.cells #[.int .i64 e.view, .int .i64 e.client, .int .i64 e.request, .int .i64 e.dflt, .int .i64 e.closed, .int .i64 e.fuel, .int .i64 e.stack, .slice E1 m1 d1, .slice E2 m2 d2] 56 (0, 0)) by
    rw [hw1]
    have := blk_new w (.cells #[.int .i64 e.view, .int .i64 e.client, .int .i64 e.request, .int .i64 e.dflt, .int .i64 e.closed, .int .i64 e.fuel, .int .i64 e.stack, .slice E1 m1 d1, .slice E2 m2 d2] 56)
    simpa using this)
  have SZ := hid (show w1.heap.size = w.heap.size + 1 by rw [hw1]; simp)
  have H1 := hid (h.far C1.out)
  have BP := hid H1.out.blk
  have HL := hid H1.out.log.bound
  have L1 := hid h.log.1
  have HN := hid hn
  have hn2 : (n : Int) ≤ 64 := by omega
  obtain ⟨b, hb⟩ : ∃ q_, q_ = w.heap.size := ⟨_, rfl⟩
  have HBb := hid hb
  replace BX := hid (show w1.heap[b]? = some (.cells #[.int .i64 e.view, .int .i64 e.client, .int .i64 e.request, .int .i64 e.dflt, .int .i64 e.closed, .int .i64 e.fuel, .int .i64 e.stack, .slice E1 m1 d1, .slice E2 m2 d2] 56 (0, 0)) by rw [hb]; exact BX.out)
  have P_7 : w.cell? ⟨p, 7, none⟩ = some (.slice A n c) := (cellAt h.blk 7).trans rfl
  have hpn : p ≠ b := by have := HPB.out; omega
  have hpw : p < b := by have := HPB.out; omega
  have hpw2 := HPB.out
  have hpn2 : p ≠ w.heap.size := by omega
  clear h hn
  go_enter Try.func75, Try.ntmps75
  go_wp2_with fail
  rw [← hw1, ← hb]
  clear hw1 hb SZ P_7 hpw2 hpn2
  go_loopw [5, 14] (fun o i wr => ∃ (k : Nat) (ov : Int), k ≤ n ∧ i = .int .i64 k ∧ o = .int .i64 ov ∧ hadTo r.s.commit e (r.s.log.drop k) k ov = hadR r e ∧ Chg (fun _ => False) w1 wr) (fun _ i _ => n - (intOf i).toNat)
  case atStart => exact ⟨0, 0, Nat.zero_le _, rfl, rfl, rfl, Chg.refl _ _⟩
  case round =>
    obtain ⟨k, ov, hk, rfl, rfl, hh, hC⟩ := hrel
    have HH := hid hh
    have HC := hid hC
    clear hh hC
    by_cases hlt : k < n
    · have hlt2 : (k : Int) < (n : Int) := by omega
      have hlt3 : k < r.s.log.length := by have := L1.out; omega
      obtain ⟨x, hx⟩ : ∃ x, r.s.log[k]? = some x := ⟨_, List.getElem?_eq_getElem hlt3⟩
      have HD := hid (show r.s.log.drop k = x :: r.s.log.drop (k + 1) by
        rw [List.drop_eq_getElem_cons hlt3]
        have := List.getElem?_eq_getElem hlt3
        rw [hx] at this
        injection this with this
        rw [← this])
      obtain ⟨a, cs, ha, haR, hK, hcs⟩ := HL.out.get (by decide) hx
      obtain ⟨F1, q1, g1, F2, q2, g2, rfl, hrw⟩ := entry_open (id hK)
      subst ha
      have hcs2 : ∀ j u, (entryCells x F1 q1 g1 F2 q2 g2)[j]? = some u → wr.cell? (a.add (k * 9 + j)) = some u := fun j u hj => HC.out.cell (hcs j u hj) (fun h => h)
      have x0 := elem_cell0 hcs2 _ rfl
      have x1 := elem_cell hcs2 0 _ rfl
      have x2 := elem_cell hcs2 1 _ rfl
      have x3 := elem_cell hcs2 2 _ rfl
      have x4 := elem_cell hcs2 3 _ rfl
      have x5 := elem_cell hcs2 4 _ rfl
      have x6 := elem_cell hcs2 5 _ rfl
      have x7 := elem_cell hcs2 6 _ rfl
      have x8 := elem_cell hcs2 7 _ rfl
      have BQ := hid (HC.out.blk BP.out (fun h => h))
      have BY := hid (HC.out.blk BX.out (fun h => h))
      have P_5 : wr.cell? ⟨p, 5, none⟩ = some (.int .i64 r.s.commit) := (cellAt BQ.out 5).trans rfl
      have X_1 : wr.cell? ⟨b, 1, none⟩ = some (.int .i64 e.client) := (cellAt BY.out 1).trans rfl
      have X_2 : wr.cell? ⟨b, 2, none⟩ = some (.int .i64 e.request) := (cellAt BY.out 2).trans rfl
      have hbw := lt_of_blk BY.out
      have hpw2 := lt_of_blk BQ.out
      have hbn : b ≠ wr.heap.size := by omega
      have hpn2 : p ≠ wr.heap.size := by omega
      have HCN := hid (show ∀ o, Chg (fun _ => False) w1 (wr.alloc o) from fun o => HC.out.alloc o)
      have GO := hid (show ∀ ov', hadTo r.s.commit e (x :: r.s.log.drop (k + 1)) k ov = hadTo r.s.commit e (r.s.log.drop (k + 1)) ((k : Int) + 1) ov' → hadTo r.s.commit e (r.s.log.drop (k + 1)) ((k + 1 : Nat) : Int) ov' = hadR r e from fun ov' h => by rw [← HH.out, HD.out, h]; rfl)
      clear hcs hK hcs2 hx haR hrw hlt3
      by_cases q1 : x.client = e.client
      · have q1b : (x.client != e.client) = false := by simp [q1]
        by_cases q2 : x.request < e.request
        · replace GO := hid (GO.out ov (by rw [hadTo, if_pos (.inr q2)]))
          clear q1
          go_wp2_with fail
          go_roundw
          case measure => simp [intOf]; omega
          case rel => exact ⟨k + 1, ov, hlt, by go_num, rfl, GO.out, HCN.out _⟩
        · have HA := hid (show ¬ (x.client ≠ e.client ∨ x.request < e.request) from fun h => by rcases h with h | h; exact h q1; exact q2 h)
          clear q1
          by_cases q3 : e.request < x.request
          · have HE := hid (show hadR r e = 31 by rw [← HH.out, HD.out, hadTo, if_neg HA.out, if_pos (.inl q3)])
            go_wp2_with fail
            go_ret
            exact ⟨by rw [HE.out]; rfl, C1.out.trans (HCN.out _) (fun _ h _ => h)⟩
          · by_cases q4 : (k : Int) < r.s.commit
            · have HE := hid (show hadR r e = 31 by rw [← HH.out, HD.out, hadTo, if_neg HA.out, if_pos (.inr q4)])
              go_wp2_with fail
              go_ret
              exact ⟨by rw [HE.out]; rfl, C1.out.trans (HCN.out _) (fun _ h _ => h)⟩
            · replace GO := hid (GO.out 52 (by rw [hadTo, if_neg HA.out, if_neg (fun h => by rcases h with h | h; exact q3 h; exact q4 h)]))
              go_wp2_with fail
              go_roundw
              case measure => simp [intOf]; omega
              case rel => exact ⟨k + 1, 52, hlt, by go_num, rfl, GO.out, HCN.out _⟩
      · have q1b : (x.client != e.client) = true := by simp [q1]
        replace GO := hid (GO.out ov (by rw [hadTo, if_pos (.inl q1)]))
        clear q1
        go_wp2_with fail
        go_roundw
        case measure => simp [intOf]; omega
        case rel => exact ⟨k + 1, ov, hlt, by go_num, rfl, GO.out, HCN.out _⟩
    · have hkn : ¬ (k : Int) < (n : Int) := by omega
      obtain rfl : n = k := by omega
      have HE := hid (show ov = hadR r e by rw [← HH.out, List.drop_eq_nil_of_le (by have := L1.out; omega)]; rfl)
      go_wp2_with fail
      go_ret
      exact ⟨by rw [← HE.out]; rfl, C1.out.trans HC.out (fun _ h _ => h)⟩
end Go.Proofs.Ytaldoajdhbndhaa.Pa


/- take. -/

namespace Go.Proofs.Ytaldoajdhbndhaa.Pa

set_option linter.unusedVariables false

set_option linter.unusedSimpArgs false

open Go.RowKit Go.Proofs.Ytaldoajdhbndhaa.C

attribute [local go_sem] max2_int min2_int max_two min_two

theorem numW_msgOp {a b : Int} (ha : NumW a) (hb : NumW b) : NumW (msgOp a b).kind ∧ NumW (msgOp a b).op ∧ NumW (msgOp a b).commit ∧ NumW (msgOp a b).normal := ⟨ha, hb, show NumW 0 by decide, show NumW 0 by decide⟩
/-- Its own cells were written, the log's too. -/
theorem Rep.relog {w0 w W : World} {p b1 b2 b3 : Nat} {X : Nat → Prop} {r r' : Rp} {A A' : Option Addr} {n c n' c' : Nat} {O : Value} (h : Rep w0 w p b1 b2 b3 X r A n c O) (hc : Chg (fun k => k = p) w W)
    (hb : W.heap[p]? = some (.cells #[.int .i64 r'.n, .int .i64 r'.id, .int .i64 r'.tm, .int .i64 r'.s.view, .int .i64 r'.s.normal, .int .i64 r'.s.commit, .int .i64 r'.s.active, .slice A' n' c', .bool r'.ch, .map (some b1), .map (some b2), .map (some b3), .bool r'.said, .int .i64 r'.quiet, O] 100 (0, 0))) (hlog : Ty.At entryK W (Lg X O) A' n' c' r'.s.log) (e1 : r'.acks = r.acks) (e2 : r'.starts = r.starts) (e3 : r'.chgs = r.chgs) (e5 : r'.out = r.out) : Rep w0 W p b1 b2 b3 X r' A' n' c' O := by
  obtain ⟨V, h3, h4⟩ := h.chgs
  have hn := h.nep
  have hl : ∀ k, Lg X O k → ¬ k = p := fun k hk e => hk.1 (h.sub.1 k (.inl e))
  have ho : ∀ k, w0.heap.size ≤ k → ¬ k = p := fun k hk e => by have := h.lt.1; omega
  exact ⟨Nat.le_trans h.sz hc.size, h.lt, h.ne, h.sub, hb, by rw [e1]; exact h.acks.chg hc hn.1, by rw [e2]; exact h.starts.chg hc hn.2.1, ⟨V, h3.chg hc hn.2.2, by rw [e3]; exact h4.chg hc hl⟩, hlog, by rw [e5]; exact h.out.chg hc (fun k hk => ho k (h.out.inS k hk)) (fun k hk _ _ => ho k hk)⟩
/-- What lies in memory that is newer than the call is no block of a replica. -/
theorem Rep.new_lg {w0 w : World} {p b1 b2 b3 : Nat} {X : Nat → Prop} {r : Rp} {A : Option Addr} {n c : Nat} {O : Value} (h : Rep w0 w p b1 b2 b3 X r A n c O) {k : Nat} (hk : w.heap.size ≤ k) : Lg X O k :=
  ⟨fun e => by have h1 := h.sub.2 k e; have h2 := h.sz; omega, fun e => by have := (h.outB k e).2; omega⟩
set_option maxHeartbeats 4000000 in
set_option maxRecDepth 100000 in
theorem take_any {w0 w : World} {p b1 b2 b3 : Nat} {X : Nat → Prop} {r : Rp} {A : Option Addr} {n c : Nat} {O : Value} (h : Rep w0 w p b1 b2 b3 X r A n c O) {m : Msg} {R : Nat → Prop} {B : Option Addr} {k d : Nat} (hm : Ty.At entryK w R B k d m.log) (hok : RpOk r) (hmr : msgR m = true) (ho : r.out.length ≤ 900) :
    Calls Try.prog 52 #[.pointer (some ⟨p, 0, none⟩), .agg #[.int .i64 m.kind, .int .i64 m.view, .int .i64 m.src, .int .i64 m.dst, .int .i64 m.op, .int .i64 m.commit, .int .i64 m.normal, .slice B k d]] w (RepTo w0 w p b1 b2 b3 X O (.tuple #[]) (takeR r m)) := by
  obtain ⟨w1, hw1⟩ : ∃ q_, q_ = (w.alloc (.cells #[.int .i64 m.kind, .int .i64 m.view, .int .i64 m.src, .int .i64 m.dst, .int .i64 m.op, .int .i64 m.commit, .int .i64 m.normal, .slice B k d] 41)) := ⟨_, rfl⟩
  have C1 := hid (show Chg (fun _ => False) w w1 by rw [hw1]; exact (Chg.refl _ w).alloc _)
  have BX := hid (show w1.heap[w.heap.size]? = some (.cells #[.int .i64 m.kind, .int .i64 m.view, .int .i64 m.src, .int .i64 m.dst, .int .i64 m.op, .int .i64 m.commit, .int .i64 m.normal, .slice B k d] 41 (0, 0)) by
    rw [hw1]
    have := blk_new w (.cells #[.int .i64 m.kind, .int .i64 m.view, .int .i64 m.src, .int .i64 m.dst, .int .i64 m.op, .int .i64 m.commit, .int .i64 m.normal, .slice B k d] 41)
    simpa using this)
  have SZ := hid (show w1.heap.size = w.heap.size + 1 by rw [hw1]; simp)
  have H1 := hid (h.far C1.out)
  obtain ⟨b, hb⟩ : ∃ q_, q_ = w.heap.size := ⟨_, rfl⟩
  have HBb := hid hb
  replace BX := hid (show w1.heap[b]? = some (.cells #[.int .i64 m.kind, .int .i64 m.view, .int .i64 m.src, .int .i64 m.dst, .int .i64 m.op, .int .i64 m.commit, .int .i64 m.normal, .slice B k d] 41 (0, 0)) by rw [hb]; exact BX.out)
  have HSZ := hid (show w1.heap.size = b + 1 by rw [hb]; exact SZ.out)
  have HPB := hid (show p < b by rw [hb]; exact lt_of_blk h.blk)
  have HW0 := hid (show w0.heap.size ≤ b by rw [hb]; exact h.sz)
  have HM := hid (hm.chg C1.out (fun _ _ h => h))
  have HOK := hid hok
  have HMR := hid hmr
  have HO := hid ho
  have hpb : ¬ b = p := by have := HPB.out; omega
  clear h hm hok hmr ho
  go_enter Try.func52, Try.ntmps52
  go_wp2_with fail
  rw [← hw1, ← hb]
  clear hw1 hb SZ
  refine (fits_any H1.out HM.out HOK.out.st).mono ?_
  rintro e w2 ⟨rfl, k2⟩
  have K2 := hid k2
  have H2 := hid (H1.out.far k2)
  have BX2 := hid (k2.blk BX.out (fun h => h))
  have HM2 := hid (HM.out.chg k2 (fun _ _ h => h))
  have HK := hid HM.out.1
  have HKL := hid (show k ≤ 64 by have h1 := HM.out.1; have h2 := (msgR_log HMR.out).1; omega)
  clear k2
  cases hf : fitsR r m.log
  case false =>
    go_wp2_with fail
    go_end0
    have e1 : takeR r m = r := by unfold takeR; rw [if_neg (by rw [hf]; decide)]
    rw [e1]
    exact ⟨A, n, c, O, rfl, H2.out, fun _ h => .inl h, (C1.out.trans K2.out (fun _ h _ => h)).mono (fun _ h _ => h.elim)⟩
  case true =>
    have HF := hid hf
    clear hf
    go_wp2_with fail
    have X_1 : ∀ wx, Chg (fun k => k = p) w2 wx → wx.cell? ⟨b, 1, none⟩ = some (.int .i64 m.view) := fun wx hx => (cellAt (hx.blk BX2.out (hpb)) 1).trans rfl
    have X_7 : ∀ wx, Chg (fun k => k = p) w2 wx → wx.cell? ⟨b, 7, none⟩ = some (.slice B k d) := fun wx hx => (cellAt (hx.blk BX2.out (hpb)) 7).trans rfl
    have BP := hid H2.out.blk
    have HD := hid ((Chg.refl (fun _ => False) w2).drew)
    refine wpB_start (fun wx : World => Chg (fun k => k = p) w2 wx) (by kernel_rfl) ?_
    have hHeld : (fun wx : World => Chg (fun k => k = p) w2 wx) _ := (Chg.refl (fun k => k = p) w2).drew
    -- 0: t9 := move t0 : 30
    refine wpB_take (i := 0) (v := ?_) (get_of_drop rfl) (by kernel_rfl) (by kernel_rfl) (by kernel_rfl) (by kernel_rfl) (fun _ _ _ h => h) (Or.inl ⟨by rfl, ?_⟩) hHeld ?_
    rotate_left
    · (intro w hSw; (try dsimp only at hSw); go_simp <;> with_reducible rfl)
    try simp only [Act.put, List.setIfInBounds_toArray, List.set_cons_zero, List.set_cons_succ]
    -- 1: t10 := move t0 : 30
    refine wpB_take (i := 1) (v := ?_) (get_of_drop rfl) (by kernel_rfl) (by kernel_rfl) (by kernel_rfl) (by kernel_rfl) (fun _ _ _ h => h) (Or.inl ⟨by rfl, ?_⟩) hHeld ?_
    rotate_left
    · (intro w hSw; (try dsimp only at hSw); go_simp <;> with_reducible rfl)
    try simp only [Act.put, List.setIfInBounds_toArray, List.set_cons_zero, List.set_cons_succ]
    -- 2: t11 := move t0 : 30
    refine wpB_take (i := 2) (v := ?_) (get_of_drop rfl) (by kernel_rfl) (by kernel_rfl) (by kernel_rfl) (by kernel_rfl) (fun _ _ _ h => h) (Or.inl ⟨by rfl, ?_⟩) hHeld ?_
    rotate_left
    · (intro w hSw; (try dsimp only at hSw); go_simp <;> with_reducible rfl)
    try simp only [Act.put, List.setIfInBounds_toArray, List.set_cons_zero, List.set_cons_succ]
    -- 3: t12 := fieldAddr 41 t3 1 : 0
    refine wpB_take (i := 3) (v := ?_) (get_of_drop rfl) (by kernel_rfl) (by kernel_rfl) (by kernel_rfl) (by kernel_rfl) (fun _ _ _ h => h) (Or.inl ⟨by rfl, ?_⟩) hHeld ?_
    rotate_left
    · (intro w hSw; (try dsimp only at hSw); go_simp <;> with_reducible rfl)
    try simp only [Act.put, List.setIfInBounds_toArray, List.set_cons_zero, List.set_cons_succ]
    -- 4: t13 := load 3 t12 : 3
    refine wpB_take (i := 4) (v := ?_) (get_of_drop rfl) (by kernel_rfl) (by kernel_rfl) (by kernel_rfl) (by kernel_rfl) (fun _ _ _ h => h) (Or.inl ⟨by rfl, ?_⟩) hHeld ?_
    rotate_left
    · (intro w hSw; (try dsimp only at hSw); go_simp <;> with_reducible rfl)
    try simp only [Act.put, List.setIfInBounds_toArray, List.set_cons_zero, List.set_cons_succ]
    -- 5: t14 := fieldAddr 41 t3 1 : 0
    refine wpB_take (i := 5) (v := ?_) (get_of_drop rfl) (by kernel_rfl) (by kernel_rfl) (by kernel_rfl) (by kernel_rfl) (fun _ _ _ h => h) (Or.inl ⟨by rfl, ?_⟩) hHeld ?_
    rotate_left
    · (intro w hSw; (try dsimp only at hSw); go_simp <;> with_reducible rfl)
    try simp only [Act.put, List.setIfInBounds_toArray, List.set_cons_zero, List.set_cons_succ]
    -- 6: t15 := load 3 t14 : 3
    refine wpB_take (i := 6) (v := ?_) (get_of_drop rfl) (by kernel_rfl) (by kernel_rfl) (by kernel_rfl) (by kernel_rfl) (fun _ _ _ h => h) (Or.inl ⟨by rfl, ?_⟩) hHeld ?_
    rotate_left
    · (intro w hSw; (try dsimp only at hSw); go_simp <;> with_reducible rfl)
    try simp only [Act.put, List.setIfInBounds_toArray, List.set_cons_zero, List.set_cons_succ]
    -- 7: t16 := fieldAddr 41 t3 7 : 0
    refine wpB_take (i := 7) (v := ?_) (get_of_drop rfl) (by kernel_rfl) (by kernel_rfl) (by kernel_rfl) (by kernel_rfl) (fun _ _ _ h => h) (Or.inl ⟨by rfl, ?_⟩) hHeld ?_
    rotate_left
    · (intro w hSw; (try dsimp only at hSw); go_simp <;> with_reducible rfl)
    try simp only [Act.put, List.setIfInBounds_toArray, List.set_cons_zero, List.set_cons_succ]
    -- 8: t17 := load 24 t16 : 24
    refine wpB_take (i := 8) (v := ?_) (get_of_drop rfl) (by kernel_rfl) (by kernel_rfl) (by kernel_rfl) (by kernel_rfl) (fun _ _ _ h => h) (Or.inl ⟨by rfl, ?_⟩) hHeld ?_
    rotate_left
    · (intro w hSw; (try dsimp only at hSw); go_simp <;> with_reducible rfl)
    try simp only [Act.put, List.setIfInBounds_toArray, List.set_cons_zero, List.set_cons_succ]
    -- 9: t18 := CALL fn47(t17) : 24
    refine wpB_act (i := 9) (by kernel_rfl) (get_of_drop rfl) (fun K hK => ?_)
    go_simp
    refine (rcopied_any (HM2.out.chg HD.out (fun _ _ h => h)) (Nat.le_trans HKL.out (by decide)) (fits_right (msgR_log HMR.out).2.1)).mono ?_
    rintro e' wy ⟨B2, d2, rfl, hat, hcy⟩
    have HV := hid hat
    have HZ := hid (show Chg (fun _ => False) w2 wy from HD.out.trans hcy (fun _ h _ => h))
    have HKZ := hid (show Chg (fun k => k = p) w2 wy from HZ.out.mono (fun _ h _ => h.elim))
    have BY := hid (HZ.out.blk BP.out (fun h => h))
    have y3 : wy.cell? ⟨p, 3, none⟩ = some (.int .i64 r.s.view) := (cellAt BY.out 3).trans rfl
    have y4 : wy.cell? ⟨p, 4, none⟩ = some (.int .i64 r.s.normal) := (cellAt BY.out 4).trans rfl
    have y7 : wy.cell? ⟨p, 7, none⟩ = some (.slice A n c) := (cellAt BY.out 7).trans rfl
    have f3 : wy.frozen? ⟨p, 3, none⟩ = false := freeAt BY.out 3
    have f4 : wy.frozen? ⟨p, 4, none⟩ = false := freeAt BY.out 4
    have f7 : wy.frozen? ⟨p, 7, none⟩ = false := freeAt BY.out 7
    clear hcy hat
    refine hK.out _ _ ?_ (fun hHeld2 => ?_)
    · (first | assumption | (with_reducible exact HKZ.out) | (exact HKZ.out.set (fun _ => rfl) _) | (exact (HKZ.out.set (fun _ => rfl) _).set (fun _ => rfl) _) | (exact ((HKZ.out.set (fun _ => rfl) _).set (fun _ => rfl) _).set (fun _ => rfl) _))
    clear hHeld hK K
    have hHeld := hHeld2
    clear hHeld2
    try simp only [Act.put, List.setIfInBounds_toArray, List.set_cons_zero, List.set_cons_succ]
    -- 10: t19 := nilCheck t9 : 0
    refine wpB_take (i := 10) (v := ?_) (get_of_drop rfl) (by kernel_rfl) (by kernel_rfl) (by kernel_rfl) (by kernel_rfl) (fun _ _ _ h => h) (Or.inl ⟨by rfl, ?_⟩) hHeld ?_
    rotate_left
    · (intro w hSw; (try dsimp only at hSw); go_simp <;> with_reducible rfl)
    try simp only [Act.put, List.setIfInBounds_toArray, List.set_cons_zero, List.set_cons_succ]
    -- 11: t20 := fieldAddr 100 t19 1 : 0
    refine wpB_take (i := 11) (v := ?_) (get_of_drop rfl) (by kernel_rfl) (by kernel_rfl) (by kernel_rfl) (by kernel_rfl) (fun _ _ _ h => h) (Or.inl ⟨by rfl, ?_⟩) hHeld ?_
    rotate_left
    · (intro w hSw; (try dsimp only at hSw); go_simp <;> with_reducible rfl)
    try simp only [Act.put, List.setIfInBounds_toArray, List.set_cons_zero, List.set_cons_succ]
    -- 12: t21 := fieldAddr 26 t20 0 : 0
    refine wpB_take (i := 12) (v := ?_) (get_of_drop rfl) (by kernel_rfl) (by kernel_rfl) (by kernel_rfl) (by kernel_rfl) (fun _ _ _ h => h) (Or.inl ⟨by rfl, ?_⟩) hHeld ?_
    rotate_left
    · (intro w hSw; (try dsimp only at hSw); go_simp <;> with_reducible rfl)
    try simp only [Act.put, List.setIfInBounds_toArray, List.set_cons_zero, List.set_cons_succ]
    -- 13: t- := store 3 t21 t13 : 0
    refine wpB_act (i := 13) (by kernel_rfl) (get_of_drop rfl) (fun K hK => ?_)
    go_simp
    refine hK.out _ _ ?_ (fun hHeld2 => ?_)
    · (first | assumption | (with_reducible exact HKZ.out) | (exact HKZ.out.set (fun _ => rfl) _) | (exact (HKZ.out.set (fun _ => rfl) _).set (fun _ => rfl) _) | (exact ((HKZ.out.set (fun _ => rfl) _).set (fun _ => rfl) _).set (fun _ => rfl) _))
    clear hHeld hK K
    have hHeld := hHeld2
    clear hHeld2
    try simp only [Act.put, List.setIfInBounds_toArray, List.set_cons_zero, List.set_cons_succ]
    -- 14: t22 := nilCheck t10 : 0
    refine wpB_take (i := 14) (v := ?_) (get_of_drop rfl) (by kernel_rfl) (by kernel_rfl) (by kernel_rfl) (by kernel_rfl) (fun _ _ _ h => h) (Or.inl ⟨by rfl, ?_⟩) hHeld ?_
    rotate_left
    · (intro w hSw; (try dsimp only at hSw); go_simp <;> with_reducible rfl)
    try simp only [Act.put, List.setIfInBounds_toArray, List.set_cons_zero, List.set_cons_succ]
    -- 15: t23 := fieldAddr 100 t22 1 : 0
    refine wpB_take (i := 15) (v := ?_) (get_of_drop rfl) (by kernel_rfl) (by kernel_rfl) (by kernel_rfl) (by kernel_rfl) (fun _ _ _ h => h) (Or.inl ⟨by rfl, ?_⟩) hHeld ?_
    rotate_left
    · (intro w hSw; (try dsimp only at hSw); go_simp <;> with_reducible rfl)
    try simp only [Act.put, List.setIfInBounds_toArray, List.set_cons_zero, List.set_cons_succ]
    -- 16: t24 := fieldAddr 26 t23 1 : 0
    refine wpB_take (i := 16) (v := ?_) (get_of_drop rfl) (by kernel_rfl) (by kernel_rfl) (by kernel_rfl) (by kernel_rfl) (fun _ _ _ h => h) (Or.inl ⟨by rfl, ?_⟩) hHeld ?_
    rotate_left
    · (intro w hSw; (try dsimp only at hSw); go_simp <;> with_reducible rfl)
    try simp only [Act.put, List.setIfInBounds_toArray, List.set_cons_zero, List.set_cons_succ]
    -- 17: t- := store 3 t24 t15 : 0
    refine wpB_act (i := 17) (by kernel_rfl) (get_of_drop rfl) (fun K hK => ?_)
    go_simp
    refine hK.out _ _ ?_ (fun hHeld2 => ?_)
    · (first | assumption | (with_reducible exact HKZ.out) | (exact HKZ.out.set (fun _ => rfl) _) | (exact (HKZ.out.set (fun _ => rfl) _).set (fun _ => rfl) _) | (exact ((HKZ.out.set (fun _ => rfl) _).set (fun _ => rfl) _).set (fun _ => rfl) _))
    clear hHeld hK K
    have hHeld := hHeld2
    clear hHeld2
    try simp only [Act.put, List.setIfInBounds_toArray, List.set_cons_zero, List.set_cons_succ]
    -- 18: t25 := nilCheck t11 : 0
    refine wpB_take (i := 18) (v := ?_) (get_of_drop rfl) (by kernel_rfl) (by kernel_rfl) (by kernel_rfl) (by kernel_rfl) (fun _ _ _ h => h) (Or.inl ⟨by rfl, ?_⟩) hHeld ?_
    rotate_left
    · (intro w hSw; (try dsimp only at hSw); go_simp <;> with_reducible rfl)
    try simp only [Act.put, List.setIfInBounds_toArray, List.set_cons_zero, List.set_cons_succ]
    -- 19: t26 := fieldAddr 100 t25 1 : 0
    refine wpB_take (i := 19) (v := ?_) (get_of_drop rfl) (by kernel_rfl) (by kernel_rfl) (by kernel_rfl) (by kernel_rfl) (fun _ _ _ h => h) (Or.inl ⟨by rfl, ?_⟩) hHeld ?_
    rotate_left
    · (intro w hSw; (try dsimp only at hSw); go_simp <;> with_reducible rfl)
    try simp only [Act.put, List.setIfInBounds_toArray, List.set_cons_zero, List.set_cons_succ]
    -- 20: t27 := fieldAddr 26 t26 4 : 0
    refine wpB_take (i := 20) (v := ?_) (get_of_drop rfl) (by kernel_rfl) (by kernel_rfl) (by kernel_rfl) (by kernel_rfl) (fun _ _ _ h => h) (Or.inl ⟨by rfl, ?_⟩) hHeld ?_
    rotate_left
    · (intro w hSw; (try dsimp only at hSw); go_simp <;> with_reducible rfl)
    try simp only [Act.put, List.setIfInBounds_toArray, List.set_cons_zero, List.set_cons_succ]
    -- 21: t- := store 24 t27 t18 : 0 (BARRIER)
    refine wpB_bar (i := 21) (by kernel_rfl) (get_of_drop rfl) (by kernel_rfl) (fun K hK => ?_)
    go_simp
    refine hK.out _ _ (fun _ : World => True) ?_
    clear hHeld hK K
    have hHeld := trivial
    try simp only [Act.put, List.setIfInBounds_toArray, List.set_cons_zero, List.set_cons_succ]
    refine wpB_done (by kernel_rfl) ?_ _
    obtain ⟨W3, hW3⟩ : ∃ q_, q_ = (((wy.setCell ⟨p, 3, none⟩ (.int .i64 m.view)).setCell ⟨p, 4, none⟩ (.int .i64 m.view)).setCell ⟨p, 7, none⟩ (.slice B2 k d2)) := ⟨_, rfl⟩
    rw [← hW3]
    have K3 := hid (show Chg (fun k => k = p) wy W3 by rw [hW3]; exact (((Chg.refl (fun k => k = p) wy).set (fun _ => rfl) _).set (fun _ => rfl) _).set (fun _ => rfl) _)
    obtain ⟨r3, hr3⟩ : ∃ q_, q_ = { r with s := { r.s with view := m.view, normal := m.view, log := m.log } } := ⟨_, rfl⟩
    have HR3 := hid hr3
    have HLOG := hid (show Ty.At entryK W3 (Lg X O) B2 k d2 r3.s.log by
      rw [hr3]
      refine (HV.out.at.chg K3.out (fun j hj e => ?_)).mono (fun j hj => H2.out.new_lg ?_)
      · have h1 := lt_of_blk H2.out.blk; rcases hj with h | h <;> (have : w2.heap.size ≤ j := h; omega)
      · rcases hj with h | h <;> exact h)
    have H3 := hid ((H2.out.far HZ.out).relog (r' := r3) K3.out (by rw [hW3, hr3]; exact blk_set (blk_set (blk_set BY.out 3 _) 4 _) 7 _) HLOG.out (by rw [hr3]) (by rw [hr3]) (by rw [hr3]) (by rw [hr3]))
    have e3 : r3.s.commit = r.s.commit := by rw [hr3]
    have e8 : r3.ch = r.ch := by rw [hr3]
    clear hW3 hr3 y3 y4 y7 f3 f4 f7 X_1 X_7 HLOG
    have C3 := hid (show Chg (fun k => k = p) w W3 from ((C1.out.trans K2.out (fun _ h _ => h)).trans HZ.out (fun _ h _ => h)).mono (S' := fun k => k = p) (fun _ h _ => h.elim) |>.trans K3.out (fun _ h _ => h))
    have BX3 := hid ((K3.out.blk (HZ.out.blk BX2.out (fun h => h)) hpb))
    have BP3 := hid H3.out.blk
    rw [e3] at BP3
    go_wp2_with fail
    have U_5 : ∀ wx, Chg (fun _ => False) W3 wx → wx.cell? ⟨p, 5, none⟩ = some (.int .i64 r.s.commit) := fun wx hx => (cellAt (hx.blk BP3.out (fun h => h)) 5).trans rfl
    have F_5 : W3.frozen? ⟨p, 5, none⟩ = false := freeAt BP3.out 5
    have P_5 : W3.cell? ⟨p, 5, none⟩ = some (.int .i64 r.s.commit) := (cellAt BP3.out 5).trans rfl
    have X_5 : ∀ wx, Chg (fun _ => False) W3 wx → wx.cell? ⟨b, 5, none⟩ = some (.int .i64 m.commit) := fun wx hx => (cellAt (hx.blk BX3.out (fun h => h)) 5).trans rfl
    refine wpB_start (fun wx : World => Chg (fun _ => False) W3 wx) (by kernel_rfl) ?_
    have hHeld : (fun wx : World => Chg (fun _ => False) W3 wx) _ := (Chg.refl (fun _ => False) W3).drew
    -- 0: t28 := move t0 : 30
    refine wpB_take (i := 0) (v := ?_) (get_of_drop rfl) (by kernel_rfl) (by kernel_rfl) (by kernel_rfl) (by kernel_rfl) (fun _ _ _ h => h) (Or.inl ⟨by rfl, ?_⟩) hHeld ?_
    rotate_left
    · (intro w hSw; (try dsimp only at hSw); go_simp <;> with_reducible rfl)
    try simp only [Act.put, List.setIfInBounds_toArray, List.set_cons_zero, List.set_cons_succ]
    -- 1: t29 := move t0 : 30
    refine wpB_take (i := 1) (v := ?_) (get_of_drop rfl) (by kernel_rfl) (by kernel_rfl) (by kernel_rfl) (by kernel_rfl) (fun _ _ _ h => h) (Or.inl ⟨by rfl, ?_⟩) hHeld ?_
    rotate_left
    · (intro w hSw; (try dsimp only at hSw); go_simp <;> with_reducible rfl)
    try simp only [Act.put, List.setIfInBounds_toArray, List.set_cons_zero, List.set_cons_succ]
    -- 2: t30 := nilCheck t29 : 0
    refine wpB_take (i := 2) (v := ?_) (get_of_drop rfl) (by kernel_rfl) (by kernel_rfl) (by kernel_rfl) (by kernel_rfl) (fun _ _ _ h => h) (Or.inl ⟨by rfl, ?_⟩) hHeld ?_
    rotate_left
    · (intro w hSw; (try dsimp only at hSw); go_simp <;> with_reducible rfl)
    try simp only [Act.put, List.setIfInBounds_toArray, List.set_cons_zero, List.set_cons_succ]
    -- 3: t31 := fieldAddr 100 t30 1 : 0
    refine wpB_take (i := 3) (v := ?_) (get_of_drop rfl) (by kernel_rfl) (by kernel_rfl) (by kernel_rfl) (by kernel_rfl) (fun _ _ _ h => h) (Or.inl ⟨by rfl, ?_⟩) hHeld ?_
    rotate_left
    · (intro w hSw; (try dsimp only at hSw); go_simp <;> with_reducible rfl)
    try simp only [Act.put, List.setIfInBounds_toArray, List.set_cons_zero, List.set_cons_succ]
    -- 4: t32 := fieldAddr 26 t31 2 : 0
    refine wpB_take (i := 4) (v := ?_) (get_of_drop rfl) (by kernel_rfl) (by kernel_rfl) (by kernel_rfl) (by kernel_rfl) (fun _ _ _ h => h) (Or.inl ⟨by rfl, ?_⟩) hHeld ?_
    rotate_left
    · (intro w hSw; (try dsimp only at hSw); go_simp <;> with_reducible rfl)
    try simp only [Act.put, List.setIfInBounds_toArray, List.set_cons_zero, List.set_cons_succ]
    -- 5: t33 := load 3 t32 : 3
    refine wpB_take (i := 5) (v := ?_) (get_of_drop rfl) (by kernel_rfl) (by kernel_rfl) (by kernel_rfl) (by kernel_rfl) (fun _ _ _ h => h) (Or.inl ⟨by rfl, ?_⟩) hHeld ?_
    rotate_left
    · (intro w hSw; (try dsimp only at hSw); go_simp <;> with_reducible rfl)
    try simp only [Act.put, List.setIfInBounds_toArray, List.set_cons_zero, List.set_cons_succ]
    -- 6: t34 := fieldAddr 41 t3 5 : 0
    refine wpB_take (i := 6) (v := ?_) (get_of_drop rfl) (by kernel_rfl) (by kernel_rfl) (by kernel_rfl) (by kernel_rfl) (fun _ _ _ h => h) (Or.inl ⟨by rfl, ?_⟩) hHeld ?_
    rotate_left
    · (intro w hSw; (try dsimp only at hSw); go_simp <;> with_reducible rfl)
    try simp only [Act.put, List.setIfInBounds_toArray, List.set_cons_zero, List.set_cons_succ]
    -- 7: t35 := load 3 t34 : 3
    refine wpB_take (i := 7) (v := ?_) (get_of_drop rfl) (by kernel_rfl) (by kernel_rfl) (by kernel_rfl) (by kernel_rfl) (fun _ _ _ h => h) (Or.inl ⟨by rfl, ?_⟩) hHeld ?_
    rotate_left
    · (intro w hSw; (try dsimp only at hSw); go_simp <;> with_reducible rfl)
    try simp only [Act.put, List.setIfInBounds_toArray, List.set_cons_zero, List.set_cons_succ]
    -- 8: t36 := move t0 : 30
    refine wpB_take (i := 8) (v := ?_) (get_of_drop rfl) (by kernel_rfl) (by kernel_rfl) (by kernel_rfl) (by kernel_rfl) (fun _ _ _ h => h) (Or.inl ⟨by rfl, ?_⟩) hHeld ?_
    rotate_left
    · (intro w hSw; (try dsimp only at hSw); go_simp <;> with_reducible rfl)
    try simp only [Act.put, List.setIfInBounds_toArray, List.set_cons_zero, List.set_cons_succ]
    -- 9: t37 := CALL fn76(t36) : 3
    refine wpB_act (i := 9) (by kernel_rfl) (get_of_drop rfl) (fun K hK => ?_)
    go_simp
    refine (length_any (H3.out.far hHeld) HKL.out).mono ?_
    rintro e' wy ⟨rfl, rfl⟩
    refine hK.out _ _ ?_ (fun hHeld2 => ?_)
    · first | assumption | exact Chg.alloc hHeld _
    clear hHeld hK K
    have hHeld := hHeld2
    clear hHeld2
    try simp only [Act.put, List.setIfInBounds_toArray, List.set_cons_zero, List.set_cons_succ]
    -- 10: t38 := min(t35, t37) types [3, 3] : 3
    refine wpB_take (i := 10) (v := ?_) (get_of_drop rfl) (by kernel_rfl) (by kernel_rfl) (by kernel_rfl) (by kernel_rfl) (fun _ _ _ h => h) (Or.inl ⟨by rfl, ?_⟩) hHeld ?_
    rotate_left
    · (intro w hSw; (try dsimp only at hSw); go_simp <;> with_reducible rfl)
    try simp only [Act.put, List.setIfInBounds_toArray, List.set_cons_zero, List.set_cons_succ]
    -- 11: t39 := max(t33, t38) types [3, 3] : 3
    refine wpB_take (i := 11) (v := ?_) (get_of_drop rfl) (by kernel_rfl) (by kernel_rfl) (by kernel_rfl) (by kernel_rfl) (fun _ _ _ h => h) (Or.inl ⟨by rfl, ?_⟩) hHeld ?_
    rotate_left
    · (intro w hSw; (try dsimp only at hSw); go_simp <;> with_reducible rfl)
    try simp only [Act.put, List.setIfInBounds_toArray, List.set_cons_zero, List.set_cons_succ]
    -- 12: t40 := nilCheck t28 : 0
    refine wpB_take (i := 12) (v := ?_) (get_of_drop rfl) (by kernel_rfl) (by kernel_rfl) (by kernel_rfl) (by kernel_rfl) (fun _ _ _ h => h) (Or.inl ⟨by rfl, ?_⟩) hHeld ?_
    rotate_left
    · (intro w hSw; (try dsimp only at hSw); go_simp <;> with_reducible rfl)
    try simp only [Act.put, List.setIfInBounds_toArray, List.set_cons_zero, List.set_cons_succ]
    -- 13: t41 := fieldAddr 100 t40 1 : 0
    refine wpB_take (i := 13) (v := ?_) (get_of_drop rfl) (by kernel_rfl) (by kernel_rfl) (by kernel_rfl) (by kernel_rfl) (fun _ _ _ h => h) (Or.inl ⟨by rfl, ?_⟩) hHeld ?_
    rotate_left
    · (intro w hSw; (try dsimp only at hSw); go_simp <;> with_reducible rfl)
    try simp only [Act.put, List.setIfInBounds_toArray, List.set_cons_zero, List.set_cons_succ]
    -- 14: t42 := fieldAddr 26 t41 2 : 0
    refine wpB_take (i := 14) (v := ?_) (get_of_drop rfl) (by kernel_rfl) (by kernel_rfl) (by kernel_rfl) (by kernel_rfl) (fun _ _ _ h => h) (Or.inl ⟨by rfl, ?_⟩) hHeld ?_
    rotate_left
    · (intro w hSw; (try dsimp only at hSw); go_simp <;> with_reducible rfl)
    try simp only [Act.put, List.setIfInBounds_toArray, List.set_cons_zero, List.set_cons_succ]
    -- 15: t- := store 3 t42 t39 : 0 (BARRIER)
    refine wpB_bar (i := 15) (by kernel_rfl) (get_of_drop rfl) (by kernel_rfl) (fun K hK => ?_)
    go_simp
    refine hK.out _ _ (fun _ : World => True) ?_
    clear hHeld hK K
    have hHeld := trivial
    try simp only [Act.put, List.setIfInBounds_toArray, List.set_cons_zero, List.set_cons_succ]
    refine wpB_done (by kernel_rfl) ?_ _
    obtain ⟨q, hq⟩ : ∃ q_, q_ = mx r.s.commit (mn m.commit (k : Int)) := ⟨_, rfl⟩
    rw [← hq]
    have HQ := hid (show q = max r.s.commit (min m.commit (k : Int)) by rw [hq, mx_eq, mn_eq])
    obtain ⟨W4, hW4⟩ : ∃ q_, q_ = (W3.setCell ⟨p, 5, none⟩ (.int .i64 q)).drew := ⟨_, rfl⟩
    rw [← hW4]
    have K4 := hid (show Chg (fun k => k = p) W3 W4 by rw [hW4]; exact ((Chg.refl (fun k => k = p) W3).set (fun _ => rfl) _).drew)
    have H4 := hid (H3.out.put (r' := { r3 with s := { r3.s with commit := q } }) K4.out (by rw [hW4]; exact blk_drew (blk_set BP3.out 5 _)) rfl rfl rfl rfl rfl)
    have BX4 := hid (K4.out.blk BX3.out hpb)
    have BP4 := hid H4.out.blk
    clear hq hW4 U_5 P_5 F_5 X_5
    have P_8 : W4.cell? ⟨p, 8, none⟩ = some (.bool r3.ch) := (cellAt BP4.out 8).trans rfl
    have F_8 : W4.frozen? ⟨p, 8, none⟩ = false := freeAt BP4.out 8
    go_wp2_with fail
    obtain ⟨W5, hW5⟩ : ∃ q_, q_ = W4.setCell ⟨p, 8, none⟩ (.bool false) := ⟨_, rfl⟩
    rw [← hW5]
    have K5 := hid (show Chg (fun k => k = p) W4 W5 by rw [hW5]; exact (Chg.refl (fun k => k = p) W4).set (fun _ => rfl) _)
    have H5 := hid (H4.out.put (r' := { r3 with s := { r3.s with commit := q }, ch := false }) K5.out (by rw [hW5]; exact blk_set BP4.out 8 _) rfl rfl rfl rfl rfl)
    have BX5 := hid (K5.out.blk BX4.out hpb)
    clear hW5 P_8 F_8
    refine (forget_any H5.out).mono ?_
    rintro e w6 ⟨rfl, h6, k6⟩
    have e6 : forgetR { r3 with s := { r3.s with commit := q }, ch := false } = tookR r m := by rw [HR3.out, HQ.out, HK.out]; rfl
    rw [e6] at h6
    have H6 := hid h6
    have K6 := hid k6
    have HB4 := hid (show ¬ M4 p b1 b2 b3 b from fun e => by have h4 := H2.out.sub.2 b (H2.out.sub.1 b e); have := HW0.out; omega)
    have BX6 := hid (k6.blk BX5.out HB4.out)
    have hcf := HOK.out.cfg
    have hmn := msgR_num HMR.out
    have HPR := hid (show primR (tookR r m) m.view = primR r m.view from rfl)
    have HPB2 := hid (show 0 ≤ primR r m.view ∧ primR r m.view ≤ 6 from ⟨Int.emod_nonneg _ (by omega), by have := Int.emod_lt_of_pos m.view (show 0 < r.n by omega); unfold primR; omega⟩)
    clear h6 k6 e6
    have X_1 : w6.cell? ⟨b, 1, none⟩ = some (.int .i64 m.view) := (cellAt BX6.out 1).trans rfl
    clear hcf hmn
    go_wp2_with fail
    refine (prim_any H6.out HOK.out.cfg.1 (msgR_num HMR.out).2.1).mono ?_
    rintro e w7 ⟨rfl, rfl⟩
    clear X_1
    go_wp2_with fail
    refine (length_any H6.out HKL.out).mono ?_
    rintro e w7 ⟨rfl, rfl⟩
    go_wp2_with fail
    refine (send_any (m := msgOp 2 k) (R := fun _ => False) H6.out (at_nil_ _ _ _) (by decide) (by intro e he; cases he) (numW_msgOp (by decide) (numW_of (by have := HKL.out; omega))) ⟨numW_of (by have := (msgR_num HMR.out).2.1; show _ ≤ m.view ∧ m.view ≤ _; omega), numW_of (by have := HOK.out.cfg; show _ ≤ r.id ∧ r.id ≤ _; omega), numW_of (by have := HPB2.out; rw [HPR.out]; omega)⟩ (by have := HO.out; show r.out.length ≤ _; omega)).mono ?_
    rintro e w7 ⟨O', rfl, h7, ho7, k7⟩
    have H7 := hid h7
    have HO7 := hid ho7
    have K7 := hid k7
    clear h7 ho7 k7
    go_wp2_with fail
    go_end0
    have e1 : takeR r m = sendR (tookR r m) (primR (tookR r m) m.view) (msgOp 2 k) := by unfold takeR; rw [if_pos HF.out, HK.out]; rfl
    rw [e1]
    have CZ : Chg (fun j => M4 p b1 b2 b3 j ∨ O.ownBlock = some j) w w6 := (((C3.out.trans K4.out (fun _ h _ => h)).trans K5.out (fun _ h _ => h)).mono (S' := fun j => M4 p b1 b2 b3 j ∨ O.ownBlock = some j) (fun _ h _ => .inl (.inl h))).trans K6.out (fun _ h _ => .inl h)
    exact ⟨B2, k, d2, O', rfl, H7.out, fun j hj => (HO7.out j hj).imp id (fun h => Nat.le_trans CZ.size h), CZ.trans K7.out (fun j hj _ => by rcases hj with h | h; exact .inl (.inl h); exact .inr h)⟩
end Go.Proofs.Ytaldoajdhbndhaa.Pa
