
/- The contracts of the codec's count and text. -/

import Derived.Test.YtcmfgijdelaelaaPackR

namespace Go.Proofs.Ytcmfgijdelaelaa.Pa

set_option linter.unusedVariables false

set_option linter.unusedSimpArgs false

open Go.RowKit Go.Proofs.Ytcmfgijdelaelaa.C

attribute [local go_sem] max2_int min2_int max_two min_two

theorem ptr_sees (W : World) (p : Addr) (e : TypeId) : Sees (W.alloc (.cells #[.pointer (some p)] e)) (fun k => k = W.heap.size) (some ⟨W.heap.size, 0, none⟩) [.pointer (some p)] := one_sees W _ e

set_option maxHeartbeats 2000000 in
set_option maxRecDepth 100000 in
theorem count_w {w : World} {S : Nat → Prop} {g : Nat} {v : Value} {x : List UInt8} {n : Int} (h : Wr w S g v x) (hok : NumOk n) (hx : x.length ≤ 1000000000) (least : Int) :
    Calls Try.prog 67 #[.pointer (some ⟨g, 0, none⟩), .int .i64 n, .int .i64 least] w fun e w' => e = .returned (.int .i64 n) ∧ WrTo S g (x ++ num n) w w' := by
  have HB := hid h.bound
  have HG := hid h.lt
  have HOK := hid hok
  obtain ⟨o, ho⟩ : ∃ o, o = w.heap.size := ⟨_, rfl⟩
  have HO := hid ho
  clear h hok ho
  go_enter Try.func67, Try.ntmps67
  go_wp2_with fail
  obtain ⟨w1, hw1⟩ : ∃ w1, w1 = w.alloc (.cells #[.int .i64 n] 3) := ⟨_, rfl⟩
  obtain ⟨w2, hw2⟩ : ∃ w2, w2 = w1.alloc (.cells #[.pointer (some ⟨w.heap.size, 0, none⟩)] 102) := ⟨_, rfl⟩
  have hz1 : w1.heap.size = w.heap.size + 1 := by rw [hw1]; simp
  have B1 : w1.heap[w.heap.size]? = some (.cells #[.int .i64 n] 3 (0, 0)) := by rw [hw1]; exact blk_new w _
  have B2 := hid (show w2.heap[w.heap.size]? = some (.cells #[.int .i64 n] 3 (0, 0)) by rw [hw2]; exact blk_alloc B1 _)
  have C2 := hid (show Chg (fun _ => False) w w2 by rw [hw2, hw1]; exact ((Chg.refl _ w).alloc _).alloc _)
  have P2 := hid (show Sees w2 (fun k => k = w1.heap.size) (some ⟨w.heap.size + 1, 0, none⟩) (ptrs w.heap.size [n].length) by rw [hw2, ← hz1]; exact ptr_sees w1 _ _)
  rw [← hw1, ← hw2]
  clear hw1 hw2
  refine (num_w (vs := [n]) (HB.out.chg C2.out (fun _ _ h => h)) P2.out (fun k hk hs => by have := hs.2; omega) (fun i u hi => by
    cases i with
    | zero => simp at hi; subst hi; rw [cellAt B2.out]; rfl
    | succ i => simp at hi) (fun hs => Nat.lt_irrefl _ hs.2) (fun u hu => by rw [List.mem_singleton.1 hu]; exact HOK.out) hx (by simp)).mono ?_
  rintro e w3 ⟨rfl, h3⟩
  rw [List.flatMap_singleton] at h3
  have HT := hid (WrTo.pre C2.out h3 (fun k hk => .inl hk.1))
  obtain ⟨v3, hv3, hc3⟩ := h3
  obtain ⟨d0, d1, d2, d3⟩ := hv3.cells
  have bx : w3.cell? ⟨w.heap.size, 0, none⟩ = some (.int .i64 n) := hc3.cell (by rw [cellAt B2.out]; rfl) (fun hs => Nat.lt_irrefl _ hs.2)
  clear hv3 hc3
  go_wp2_with fail
  go_quiet (fail)
  go_wp2_with fail
  go_ret
  exact ⟨rfl, HT.out.drewN _⟩

theorem rdCountL_of {L : Nat} {X Y : Option (List UInt8)} {u : Int} (h : X.bind (rdList rdNum 1) = Y.map fun r => ([u], r)) : X.bind (rdCountL L) = Y.bind fun r => if u < 0 ∨ (((r.length / L : Nat)) : Int) < u then none else some (u.toNat, r) := by
  have e := rdList_succ rdNum 0
  cases X with
  | none => cases Y with
    | none => rfl
    | some y => simp at h
  | some xb =>
    rw [Option.bind_some, e] at h
    rw [Option.bind_some]
    unfold rdCountL
    cases hr : rdNum xb with
    | none =>
      rw [hr] at h
      cases Y with
      | none => rfl
      | some y => simp at h
    | some r =>
      rw [hr] at h
      cases Y with
      | none => simp [rdList] at h
      | some y =>
        simp [rdList] at h
        obtain ⟨h1, h2⟩ := h
        subst h1 h2
        rfl

theorem Rd.stops {w : World} {B g : Nat} {A : Option Addr} {n c : Nat} {b : List UInt8} {at' : Nat} {bad' : Bool} (h : Rd w B g A n c b at' bad') {at_ : Nat} {bad : Bool} {L : Nat} {u : Int} (he : (left b at_ bad).bind (rdCountL L) = (left b at' bad').bind fun r => if u < 0 ∨ (((r.length / L : Nat)) : Int) < u then none else some (u.toNat, r))
    (hc : bad' = true ∨ u < 0 ∨ (((n - at') / L : Nat) : Int) < u) (q x : Nat) : RdTo B g A n c b at_ bad (rdCountL L) ((w.drewN q).setCell ⟨g, 3, none⟩ (.bool true)) x := by
  refine ⟨at', true, (h.chg ((Chg.refl (fun _ => False) w).drewN q) (fun _ h => h.elim) (fun h => h)).setBad true, ?_⟩
  rw [he, left_none, Option.map_none]
  cases bad' with
  | true => rfl
  | false =>
    rw [left_some, Option.bind_some, if_pos]
    rcases hc with hc | hc | hc
    · cases hc
    · exact .inl hc
    · exact .inr (by rw [List.length_drop, ← h.row.1]; exact hc)
/-- A count was read. -/
def CountTo (w : World) (B g : Nat) (A : Option Addr) (n c : Nat) (b : List UInt8) (at_ : Nat) (bad : Bool) (L : Nat) (e : Ending) (w' : World) : Prop :=
  ∃ q : Nat, e = .returned (.int .i64 (q : Int)) ∧ q ≤ n ∧ Chg (fun j => j = g) w w' ∧ RdTo B g A n c b at_ bad (rdCountL L) w' q

set_option maxHeartbeats 2000000 in
set_option maxRecDepth 100000 in
theorem count_r {w : World} {B g : Nat} {A : Option Addr} {n c : Nat} {b : List UInt8} {at_ : Nat} {bad : Bool} (h : Rd w B g A n c b at_ bad) {k : Int} (hk : (Lit.int .i64 k).wf = true) (hn : n ≤ 1000000000) {L : Nat} (hL : 0 < L) (hL2 : L ≤ 1000) :
    Calls Try.prog 67 #[.pointer (some ⟨g, 0, none⟩), .int .i64 k, .int .i64 (L : Int)] w (CountTo w B g A n c b at_ bad L) := by
  have H := hid h
  have HG := hid h.lt
  have HK := hid hk
  have hn2 : (n : Int) ≤ 1000000000 := by omega
  have hL3 : (0 : Int) < (L : Int) := by omega
  clear h hk
  go_enter Try.func67, Try.ntmps67
  go_wp2_with fail
  obtain ⟨w1, hw1⟩ : ∃ w1, w1 = w.alloc (.cells #[.int .i64 k] 3) := ⟨_, rfl⟩
  obtain ⟨w2, hw2⟩ : ∃ w2, w2 = w1.alloc (.cells #[.pointer (some ⟨w.heap.size, 0, none⟩)] 102) := ⟨_, rfl⟩
  have hz1 : w1.heap.size = w.heap.size + 1 := by rw [hw1]; simp
  have B1 : w1.heap[w.heap.size]? = some (.cells #[.int .i64 k] 3 (0, 0)) := by rw [hw1]; exact blk_new w _
  have B2 := hid (show w2.heap[w.heap.size]? = some (.cells #[.int .i64 k] 3 (0, 0)) by rw [hw2]; exact blk_alloc B1 _)
  have C2 := hid (show Chg (fun _ => False) w w2 by rw [hw2, hw1]; exact ((Chg.refl _ w).alloc _).alloc _)
  have P2 := hid (show Sees w2 (fun k => k = w1.heap.size) (some ⟨w.heap.size + 1, 0, none⟩) (ptrs w.heap.size [k].length) by rw [hw2, ← hz1]; exact ptr_sees w1 _ _)
  rw [← hw1, ← hw2]
  clear hw1 hw2
  refine (num_r (vs := [k]) (r := []) (H.out.chg C2.out (fun _ h => h.elim) (fun h => h)) P2.out (fun j hj => by have := HG.out; omega) B2.out (by have := H.out.low; have := HG.out; omega) (by have := HG.out; omega) (fun u hu => by rw [List.mem_singleton.1 hu]; exact HK.out) hn (by simp)).mono ?_
  rintro e w3 ⟨rfl, us, hus, hwf, hblk, hchg, at', bad', hrd, heq⟩
  obtain ⟨u, rfl⟩ : ∃ u, us = [u] := by
    match us, hus with
    | [u], _ => exact ⟨u, rfl⟩
  have HU := hid (wf64 (hwf u (List.mem_singleton.2 rfl)))
  have HC := hid (C2.out.mono (S' := fun j => j = g) (fun _ h _ => h.elim) |>.trans hchg (fun j hj hlt => by have : j = g ∨ j = w.heap.size := hj; omega))
  have HRD := hid hrd
  have HE := hid (rdCountL_of (L := L) heq)
  have hle := hrd.le
  obtain ⟨d0, d1, d2, d3⟩ := hrd.cells
  have f3 : w3.frozen? ⟨g, 3, none⟩ = false := freeAt hrd.blk 3
  have bx : w3.cell? ⟨w.heap.size, 0, none⟩ = some (.int .i64 u) := by rw [cellAt hblk]; rfl
  clear hus hwf hblk hchg hrd heq HK P2
  go_wp2_with fail
  have hc1 : ∀ nq, Chg (fun j => j = g) w ((w3.drewN nq).setCell ⟨g, 3, none⟩ (.bool true)) := fun nq => (HC.out.drewN nq).trans ((Chg.refl (fun j => j = g) _).set (p := ⟨g, 3, none⟩) (fun _ => rfl) _) (fun _ h _ => h)
  have HC1 := hid hc1
  clear hc1
  cases bad' with
  | true =>
    go_quiet (fail)
    go_wp2_with fail
    go_ret
    exact ⟨0, rfl, Nat.zero_le _, HC1.out _, HRD.out.stops HE.out (.inl rfl) _ _⟩
  | false =>
    have e6 : IntKind.i64.wrap ((n : Int) - (at' : Int)) = (n : Int) - (at' : Int) := IntWalk.i64_in _ (by omega)
    by_cases hu0 : u < 0
    · go_quiet (fail)
      go_wp2_with fail
      go_ret
      exact ⟨0, rfl, Nat.zero_le _, HC1.out _, HRD.out.stops HE.out (.inr (.inl hu0)) _ _⟩
    · go_quiet (fail)
      obtain ⟨d, hd⟩ : ∃ d : Nat, d = (n - at') / L := ⟨_, rfl⟩
      have hdi : ((n : Int) - (at' : Int)) / (L : Int) = (d : Int) := by rw [hd, ← Int.natCast_sub hle]; rfl
      have HD := hid hd
      rw [hdi]
      clear hdi hd e6
      by_cases hcd : (d : Int) < u
      · go_wp2_with fail
        go_ret
        exact ⟨0, rfl, Nat.zero_le _, HC1.out _, HRD.out.stops HE.out (.inr (.inr (by rw [← HD.out]; exact hcd))) _ _⟩
      · go_wp2_with fail
        go_ret
        have hdn : d ≤ n := by rw [HD.out]; exact Nat.le_trans (Nat.div_le_self _ _) (Nat.sub_le _ _)
        refine ⟨u.toNat, ?_, by omega, HC.out.drewN _, at', false, HRD.out.chg ((Chg.refl (fun _ => False) w3).drewN _) (fun _ h => h.elim) (fun h => h), ?_⟩
        · rw [Int.toNat_of_nonneg (by omega)]
          rfl
        · have := HE.out
          rw [left_some, Option.bind_some, if_neg (by rw [List.length_drop, ← HRD.out.row.1, ← HD.out]; omega)] at this
          exact this

set_option maxHeartbeats 4000000 in
set_option maxRecDepth 100000 in
theorem text_w {w : World} {S : Nat → Prop} {g p o : Nat} {v : Value} {x : List UInt8} {s : ByteArray} (h : Wr w S g v x) (hp : w.cell? ⟨p, o, none⟩ = some (.string s)) (hpS : ¬ S p) (hs : s.size ≤ 100000) (hx : x.length ≤ 900000000) :
    Calls Try.prog 74 #[.pointer (some ⟨g, 0, none⟩), .pointer (some ⟨p, o, none⟩)] w fun e w' => e = .returned (.tuple #[]) ∧ WrTo S g (x ++ num s.size ++ bts s) w w' := by
  have H := hid h
  have HP := hid hp
  have hpl : p < w.heap.size := World.block_lt_of_cell? w _ hp
  have hs2 : (s.size : Int) ≤ 100000 := by omega
  clear h
  go_enter Try.func74, Try.ntmps74
  go_wp2_with fail
  refine (count_w H.out (n := (s.size : Int)) ⟨by omega, by omega⟩ (by omega) 1).mono ?_
  rintro e w1 ⟨rfl, v1, h1, hc1⟩
  have H1 := hid h1
  have HC1 := hid hc1
  obtain ⟨nx, hnx⟩ : ∃ nx, nx = (x ++ num s.size).length := ⟨_, rfl⟩
  have NX := hid hnx
  have hnxb : nx ≤ 900000100 := by rw [hnx, List.length_append, num_len]; omega
  obtain ⟨A1, c1, hv1⟩ := h1.form
  rw [← hnx] at hv1
  subst hv1
  obtain ⟨M, hMM⟩ : ∃ M : Nat → Prop, ∀ i, M i ↔ (Value.slice A1 nx c1).ownBlock = some i := ⟨_, fun _ => Iff.rfl⟩
  have MM := hid hMM
  obtain ⟨d0, d1, d2, d3⟩ := h1.cells
  have hcell0 : ∀ wx, Chg M w1 wx → wx.cell? ⟨g, 0, none⟩ = some (.slice A1 nx c1) := fun wx hx => hx.cell d0 (fun h => H1.out.ne ((MM.out _).1 h))
  have hcellp : ∀ wx, Chg M w1 wx → wx.cell? ⟨p, o, none⟩ = some (.string s) := fun wx hx => hx.cell (HC1.out.cell HP.out hpS) (fun h => by
    rcases H1.out.rowS _ ((MM.out _).1 h) with q | q
    · exact hpS q
    · simp only at q; omega)
  clear h1 hc1 hp hnx hMM d0 d1 d3
  go_wp2_with fail
  refine wpB_start (fun wx : World => Chg M w1 wx) (by kernel_rfl) ?_
  have hHeld : (fun wx : World => Chg M w1 wx) _ := (by first | assumption | exact Chg.drew (Chg.refl _ _) | (show _ ∧ _; refine ⟨?_, ?_⟩ <;> assumption) | (first | assumption | exact hHeld.trans h2 (fun _ h _ => (MM.out _).2 h)))
  -- 0: t15 := move t0 : 73
  refine wpB_take (i := 0) (v := ?_) (get_of_drop rfl) (by kernel_rfl) (by kernel_rfl) (by kernel_rfl) (by kernel_rfl) (fun _ _ _ h => h) (Or.inl ⟨by rfl, ?_⟩) hHeld ?_
  rotate_left
  · (intro w hSw; (try dsimp only at hSw); go_simp <;> with_reducible rfl)
  try simp only [Act.put, List.setIfInBounds_toArray, List.set_cons_zero, List.set_cons_succ]
  -- 1: t16 := move t0 : 73
  refine wpB_take (i := 1) (v := ?_) (get_of_drop rfl) (by kernel_rfl) (by kernel_rfl) (by kernel_rfl) (by kernel_rfl) (fun _ _ _ h => h) (Or.inl ⟨by rfl, ?_⟩) hHeld ?_
  rotate_left
  · (intro w hSw; (try dsimp only at hSw); go_simp <;> with_reducible rfl)
  try simp only [Act.put, List.setIfInBounds_toArray, List.set_cons_zero, List.set_cons_succ]
  -- 2: t17 := nilCheck t16 : 0
  refine wpB_take (i := 2) (v := ?_) (get_of_drop rfl) (by kernel_rfl) (by kernel_rfl) (by kernel_rfl) (by kernel_rfl) (fun _ _ _ h => h) (Or.inl ⟨by rfl, ?_⟩) hHeld ?_
  rotate_left
  · (intro w hSw; (try dsimp only at hSw); go_simp <;> with_reducible rfl)
  try simp only [Act.put, List.setIfInBounds_toArray, List.set_cons_zero, List.set_cons_succ]
  -- 3: t18 := fieldAddr 75 t17 0 : 0
  refine wpB_take (i := 3) (v := ?_) (get_of_drop rfl) (by kernel_rfl) (by kernel_rfl) (by kernel_rfl) (by kernel_rfl) (fun _ _ _ h => h) (Or.inl ⟨by rfl, ?_⟩) hHeld ?_
  rotate_left
  · (intro w hSw; (try dsimp only at hSw); go_simp <;> with_reducible rfl)
  try simp only [Act.put, List.setIfInBounds_toArray, List.set_cons_zero, List.set_cons_succ]
  -- 4: t19 := load 25 t18 : 25
  refine wpB_take (i := 4) (v := ?_) (get_of_drop rfl) (by kernel_rfl) (by kernel_rfl) (by kernel_rfl) (by kernel_rfl) (fun _ _ _ h => h) (Or.inl ⟨by rfl, ?_⟩) hHeld ?_
  rotate_left
  · (intro w hSw; (try dsimp only at hSw); go_simp <;> with_reducible rfl)
  try simp only [Act.put, List.setIfInBounds_toArray, List.set_cons_zero, List.set_cons_succ]
  -- 5: t20 := move t1 : 129
  refine wpB_take (i := 5) (v := ?_) (get_of_drop rfl) (by kernel_rfl) (by kernel_rfl) (by kernel_rfl) (by kernel_rfl) (fun _ _ _ h => h) (Or.inl ⟨by rfl, ?_⟩) hHeld ?_
  rotate_left
  · (intro w hSw; (try dsimp only at hSw); go_simp <;> with_reducible rfl)
  try simp only [Act.put, List.setIfInBounds_toArray, List.set_cons_zero, List.set_cons_succ]
  -- 6: t21 := nilCheck t20 : 0
  refine wpB_take (i := 6) (v := ?_) (get_of_drop rfl) (by kernel_rfl) (by kernel_rfl) (by kernel_rfl) (by kernel_rfl) (fun _ _ _ h => h) (Or.inl ⟨by rfl, ?_⟩) hHeld ?_
  rotate_left
  · (intro w hSw; (try dsimp only at hSw); go_simp <;> with_reducible rfl)
  try simp only [Act.put, List.setIfInBounds_toArray, List.set_cons_zero, List.set_cons_succ]
  -- 7: t22 := load 9 t21 : 9
  refine wpB_take (i := 7) (v := ?_) (get_of_drop rfl) (by kernel_rfl) (by kernel_rfl) (by kernel_rfl) (by kernel_rfl) (fun _ _ _ h => h) (Or.inl ⟨by rfl, ?_⟩) hHeld ?_
  rotate_left
  · (intro w hSw; (try dsimp only at hSw); go_simp <;> with_reducible rfl)
  try simp only [Act.put, List.setIfInBounds_toArray, List.set_cons_zero, List.set_cons_succ]
  -- 8: t23 := append(t19, t22) types [25, 9] : 25
  refine wpB_act (i := 8) (by kernel_rfl) (get_of_drop rfl) (fun K hK => ?_)
  refine appstr_step _ rfl (.tmp 19) (.tmp 22) 25 9 5 rfl Try.underlying25 Try.underlying9 info5 (.slice A1 nx c1) nx (u8s (x ++ num s.size)) rfl (by have q := fun W (hW : Chg (fun _ => False) w1 W) => hW.own H1.out.row (fun _ _ h => h); (try simp only at q); rw [← NX.out] at q; exact q _ (Chg.refl _ w1).drew) s rfl (by omega) ?_
  have HH := hid hHeld
  intro A3 c3 w2 h1 h2 h3
  have f0' : w2.frozen? ⟨g, 0, none⟩ = false := freeAt ((HH.out.trans h2 (fun _ h _ => (MM.out _).2 h)).blk H1.out.blk (fun h => H1.out.ne ((MM.out _).1 h))) 0
  have c0' : w2.cell? ⟨g, 0, none⟩ = some (.slice A1 nx c1) := hcell0 _ (HH.out.trans h2 (fun _ h _ => (MM.out _).2 h))
  refine hK.out _ _ ?_ (fun hHeld2 => ?_)
  · (first | assumption | exact hHeld.trans h2 (fun _ h _ => (MM.out _).2 h))
  clear hHeld hK K
  have hHeld := hHeld2
  clear hHeld2
  try simp only [Act.put, List.setIfInBounds_toArray, List.set_cons_zero, List.set_cons_succ]
  -- 9: t24 := nilCheck t15 : 0
  refine wpB_take (i := 9) (v := ?_) (get_of_drop rfl) (by kernel_rfl) (by kernel_rfl) (by kernel_rfl) (by kernel_rfl) (fun _ _ _ h => h) (Or.inl ⟨by rfl, ?_⟩) hHeld ?_
  rotate_left
  · (intro w hSw; (try dsimp only at hSw); go_simp <;> with_reducible rfl)
  try simp only [Act.put, List.setIfInBounds_toArray, List.set_cons_zero, List.set_cons_succ]
  -- 10: t25 := fieldAddr 75 t24 0 : 0
  refine wpB_take (i := 10) (v := ?_) (get_of_drop rfl) (by kernel_rfl) (by kernel_rfl) (by kernel_rfl) (by kernel_rfl) (fun _ _ _ h => h) (Or.inl ⟨by rfl, ?_⟩) hHeld ?_
  rotate_left
  · (intro w hSw; (try dsimp only at hSw); go_simp <;> with_reducible rfl)
  try simp only [Act.put, List.setIfInBounds_toArray, List.set_cons_zero, List.set_cons_succ]
  -- 11: t- := store 25 t25 t23 : 0 (BARRIER)
  refine wpB_bar (i := 11) (by kernel_rfl) (get_of_drop rfl) (by kernel_rfl) (fun K hK => ?_)
  go_simp
  refine hK.out _ _ (fun _ : World => True) ?_
  clear hHeld hK K
  have hHeld := trivial
  try simp only [Act.put, List.setIfInBounds_toArray, List.set_cons_zero, List.set_cons_succ]
  refine wpB_done (by kernel_rfl) ?_ _
  have HN := hid (wr_set (y := x ++ num s.size ++ bts s) HC1.out H1.out (v' := .slice A3 (nx + s.size) c3) (by rw [List.length_append, bts_length, u8s_append, ← NX.out]; exact h1) ((Chg.refl (fun j => (Value.slice A1 nx c1).ownBlock = some j) w1).drew.trans h2 (fun _ h _ => h)) h3)
  clear h1 h2 h3 hHeld hcell0 hcellp f0' c0' d2
  go_wp2_with fail
  go_end0
  exact ⟨rfl, by rw [← List.append_assoc]; exact HN.out⟩

/-- A text was read into cell 4 of a block. -/
def TextTo (w : World) (B g : Nat) (A : Option Addr) (n c : Nat) (b : List UInt8) (at_ : Nat) (bad : Bool) (p tp : Nat) (us : List Int) (w' : World) : Prop :=
  ∃ s : ByteArray, s.size ≤ maxLen ∧ w'.heap[p]? = some (.cells (ints us ++ [Value.string s]).toArray tp (0, 0)) ∧ Chg (fun j => j = g ∨ j = p) w w' ∧ RdTo B g A n c b at_ bad rdText w' (bts s)
theorem rdText_of {X Y : Option (List UInt8)} {q : Nat} (h : X.bind (rdCountL 1) = Y.map fun r => (q, r)) : X.bind rdText = Y.map fun r => (r.take q, r.drop q) := by
  cases X with
  | none => cases Y with
    | none => rfl
    | some y => simp at h
  | some xb =>
    rw [Option.bind_some] at h ⊢
    unfold rdText
    rw [h]
    cases Y <;> rfl
theorem count_le {X : Option (List UInt8)} {L : Nat} {q at' n : Nat} {b : List UInt8} (h : X.bind (rdCountL L) = (left b at' false).map fun r => (q, r)) (hn : n = b.length) (hle : at' ≤ n) : at' + q ≤ n := by
  cases X with
  | none => cases h
  | some xb =>
    rw [Option.bind_some, left_some, Option.map_some] at h
    unfold rdCountL at h
    cases hr : rdNum xb with
    | none => rw [hr] at h; cases h
    | some r =>
      rw [hr, Option.bind_some] at h
      split at h
      · cases h
      · rename_i hc
        injection h with h
        injection h with h1 h2
        have h3 : r.2.length / L ≤ r.2.length := Nat.div_le_self _ _
        have h4 : r.2.length = n - at' := by rw [h2, List.length_drop, hn]
        omega
theorem drop_take_q {b : List UInt8} {at_ q : Nat} : (b.take (at_ + q)).drop at_ = (b.drop at_).take q := by
  rw [List.drop_take]
  congr 1
  omega
theorem set_str (us : List Int) (h : us.length = 4) (s t : ByteArray) : (ints us ++ [Value.string s]).toArray.setIfInBounds 4 (.string t) = (ints us ++ [Value.string t]).toArray := by
  apply Array.ext'
  rw [Array.toList_setIfInBounds]
  simp [List.set_append, h]

theorem text_end {w : World} {B g p tp : Nat} {A : Option Addr} {n c : Nat} {b : List UInt8} {at' q : Nat} {us : List Int} {s : ByteArray} (h : Rd w B g A n c b at' false) (hp : w.heap[p]? = some (.cells (ints us ++ [Value.string s]).toArray tp (0, 0))) (hus : us.length = 4) (hpB : B ≤ p) (hpg : p ≠ g) (hq : at' + q ≤ n) (t : ByteArray) :
    ((w.setCell ⟨p, 4, none⟩ (.string t)).setCell ⟨g, 1, none⟩ (.int .i64 ((at' : Int) + (q : Int)))).drew.heap[p]? = some (.cells (ints us ++ [Value.string t]).toArray tp (0, 0)) ∧
    Chg (fun j => j = g ∨ j = p) w ((w.setCell ⟨p, 4, none⟩ (.string t)).setCell ⟨g, 1, none⟩ (.int .i64 ((at' : Int) + (q : Int)))).drew ∧
    Rd ((w.setCell ⟨p, 4, none⟩ (.string t)).setCell ⟨g, 1, none⟩ (.int .i64 ((at' : Int) + (q : Int)))).drew B g A n c b (at' + q) false := by
  have c1 : Chg (fun j => j = p) w (w.setCell ⟨p, 4, none⟩ (.string t)) := (Chg.refl (fun j => j = p) w).set (p := ⟨p, 4, none⟩) (fun _ => rfl) _
  have c2 : ∀ v, Chg (fun j => j = g) (w.setCell ⟨p, 4, none⟩ (.string t)) ((w.setCell ⟨p, 4, none⟩ (.string t)).setCell ⟨g, 1, none⟩ v) := fun v => (Chg.refl (fun j => j = g) _).set (p := ⟨g, 1, none⟩) (fun _ => rfl) v
  have r1 : Rd (w.setCell ⟨p, 4, none⟩ (.string t)) B g A n c b at' false := h.chg c1 (fun j hj => hj ▸ hpB) (fun e => hpg e.symm)
  have b1 := blk_set hp 4 (.string t)
  rw [set_str us hus] at b1
  exact ⟨(c2 _).blk b1 hpg, ((c1.mono (fun _ h _ => .inr h)).trans (c2 _) (fun _ h _ => .inl h)).drew, (r1.setAt (q := at' + q) hq).drew⟩
set_option maxHeartbeats 4000000 in
set_option maxRecDepth 100000 in
theorem text_r {w : World} {B g p tp : Nat} {A : Option Addr} {n c : Nat} {b : List UInt8} {at_ : Nat} {bad : Bool} {us : List Int} {s : ByteArray} (h : Rd w B g A n c b at_ bad) (hp : w.heap[p]? = some (.cells (ints us ++ [Value.string s]).toArray tp (0, 0))) (hus : us.length = 4) (hpB : B ≤ p) (hpg : p ≠ g) (hs : s.size ≤ maxLen) (hn : n ≤ 1000000000) :
    Calls Try.prog 74 #[.pointer (some ⟨g, 0, none⟩), .pointer (some ⟨p, 4, none⟩)] w fun e w' => e = .returned (.tuple #[]) ∧ TextTo w B g A n c b at_ bad p tp us w' := by
  have H := hid h
  have HP := hid hp
  have HS := hid hs
  have hn2 : (n : Int) ≤ 1000000000 := by omega
  have hcp : w.cell? ⟨p, 4, none⟩ = some (.string s) := by
    rw [cellAt hp]
    simp [← hus]
  have hss : (s.size : Int) ≤ 9223372036854775807 := by simp [maxLen] at hs; omega
  clear h hp hs
  go_enter Try.func74, Try.ntmps74
  go_wp2_with fail
  refine (count_r H.out (k := (s.size : Int)) (int_wf (by omega) hss) hn (L := 1) (by omega) (by omega)).mono ?_
  rintro e w1 ⟨q, rfl, hqn, hc, at', bad', hrd, heq⟩
  have HC := hid hc
  have HRD := hid hrd
  have HE := hid heq
  have HP1 := hid (hc.blk HP.out hpg)
  have hle := hrd.le
  obtain ⟨d0, d1, d2, d3⟩ := hrd.cells
  clear hc hrd heq
  cases bad' with
  | true =>
    go_wp2_with fail
    go_end0
    exact ⟨rfl, s, HS.out, HP1.out, HC.out.mono (fun _ h _ => .inl h), at', true, HRD.out, by have := rdText_of HE.out; rw [left_none] at this; exact this⟩
  | false =>
    have hqle : at' + q ≤ n := count_le HE.out HRD.out.row.1 hle
    have ea : IntKind.i64.wrap ((at' : Int) + (q : Int)) = (at' : Int) + (q : Int) := IntWalk.i64_in _ (by omega)
    obtain ⟨A6, c6, hcut, hat⟩ := Ty.At.mid_ (P := Try.prog) (d := Ty.u8) Try.underlying25 info5 A n c at' (at' + q) q (at' : Int) ((at' : Int) + (q : Int)) rfl (by omega) (by omega) (by omega) HRD.out.row.2.1 (by omega)
    have HX := hid (hat w1 _ b HRD.out.row)
    have HDT := hid (drop_take_q (b := b) (at_ := at') (q := q))
    have hM : ∀ wx, Chg (fun k => k = p) w1 wx → (convert 25 9 (.slice A6 q c6)).run Try.prog wx = .ok (.string (bstr ((b.drop at').take q))) wx := fun wx hx => by
      have q1 := HX.out.chg hx (fun k hk e => by subst e; omega)
      rw [← HDT.out]
      exact str_run Try.underlying25 Try.underlying5 Try.underlying9 q1.1 q1.bytes q1.2.2.2.1 q1.2.1
    have hc0 : ∀ wx, Chg (fun k => k = p) w1 wx → wx.cell? ⟨g, 0, none⟩ = some (.slice A n c) := fun wx hx => hx.cell d0 (fun h => hpg h.symm)
    have hc1 : ∀ wx, Chg (fun k => k = p) w1 wx → wx.cell? ⟨g, 1, none⟩ = some (.int .i64 (at' : Int)) := fun wx hx => hx.cell d1 (fun h => hpg h.symm)
    have f1 : ∀ wx, Chg (fun k => k = p) w1 wx → wx.frozen? ⟨g, 1, none⟩ = false := fun wx hx => freeAt (hx.blk HRD.out.blk (fun h => hpg h.symm)) 1
    have fp : w1.drew.frozen? ⟨p, 4, none⟩ = false := freeAt (w := w1.drew) HP1.out 4
    have cp : w1.drew.cell? ⟨p, 4, none⟩ = some (.string s) := by
      show w1.cell? _ = _
      rw [cellAt HP1.out]
      simp [← hus]
    clear hat HX HDT d0 d1
    go_wp2_with fail
    refine wpB_start (fun wx : World => Chg (fun k => k = p) w1 wx) (by kernel_rfl) ?_
    have hHeld : (fun wx : World => Chg (fun k => k = p) w1 wx) _ := (by first | assumption | exact Chg.drew (Chg.refl _ _) | (show _ ∧ _; refine ⟨?_, ?_⟩ <;> assumption) | (first | assumption | exact hHeld.set (fun _ => rfl) _))
    -- 0: t31 := move t1 : 129
    refine wpB_take (i := 0) (v := ?_) (get_of_drop rfl) (by kernel_rfl) (by kernel_rfl) (by kernel_rfl) (by kernel_rfl) (fun _ _ _ h => h) (Or.inl ⟨by rfl, ?_⟩) hHeld ?_
    rotate_left
    · (intro w hSw; (try dsimp only at hSw); go_simp <;> with_reducible rfl)
    try simp only [Act.put, List.setIfInBounds_toArray, List.set_cons_zero, List.set_cons_succ]
    -- 1: t32 := move t0 : 73
    refine wpB_take (i := 1) (v := ?_) (get_of_drop rfl) (by kernel_rfl) (by kernel_rfl) (by kernel_rfl) (by kernel_rfl) (fun _ _ _ h => h) (Or.inl ⟨by rfl, ?_⟩) hHeld ?_
    rotate_left
    · (intro w hSw; (try dsimp only at hSw); go_simp <;> with_reducible rfl)
    try simp only [Act.put, List.setIfInBounds_toArray, List.set_cons_zero, List.set_cons_succ]
    -- 2: t33 := move t0 : 73
    refine wpB_take (i := 2) (v := ?_) (get_of_drop rfl) (by kernel_rfl) (by kernel_rfl) (by kernel_rfl) (by kernel_rfl) (fun _ _ _ h => h) (Or.inl ⟨by rfl, ?_⟩) hHeld ?_
    rotate_left
    · (intro w hSw; (try dsimp only at hSw); go_simp <;> with_reducible rfl)
    try simp only [Act.put, List.setIfInBounds_toArray, List.set_cons_zero, List.set_cons_succ]
    -- 3: t34 := nilCheck t33 : 0
    refine wpB_take (i := 3) (v := ?_) (get_of_drop rfl) (by kernel_rfl) (by kernel_rfl) (by kernel_rfl) (by kernel_rfl) (fun _ _ _ h => h) (Or.inl ⟨by rfl, ?_⟩) hHeld ?_
    rotate_left
    · (intro w hSw; (try dsimp only at hSw); go_simp <;> with_reducible rfl)
    try simp only [Act.put, List.setIfInBounds_toArray, List.set_cons_zero, List.set_cons_succ]
    -- 4: t35 := fieldAddr 75 t34 0 : 0
    refine wpB_take (i := 4) (v := ?_) (get_of_drop rfl) (by kernel_rfl) (by kernel_rfl) (by kernel_rfl) (by kernel_rfl) (fun _ _ _ h => h) (Or.inl ⟨by rfl, ?_⟩) hHeld ?_
    rotate_left
    · (intro w hSw; (try dsimp only at hSw); go_simp <;> with_reducible rfl)
    try simp only [Act.put, List.setIfInBounds_toArray, List.set_cons_zero, List.set_cons_succ]
    -- 5: t36 := load 25 t35 : 25
    refine wpB_take (i := 5) (v := ?_) (get_of_drop rfl) (by kernel_rfl) (by kernel_rfl) (by kernel_rfl) (by kernel_rfl) (fun _ _ _ h => h) (Or.inl ⟨by rfl, ?_⟩) hHeld ?_
    rotate_left
    · (intro w hSw; (try dsimp only at hSw); go_simp <;> with_reducible rfl)
    try simp only [Act.put, List.setIfInBounds_toArray, List.set_cons_zero, List.set_cons_succ]
    -- 6: t37 := move t0 : 73
    refine wpB_take (i := 6) (v := ?_) (get_of_drop rfl) (by kernel_rfl) (by kernel_rfl) (by kernel_rfl) (by kernel_rfl) (fun _ _ _ h => h) (Or.inl ⟨by rfl, ?_⟩) hHeld ?_
    rotate_left
    · (intro w hSw; (try dsimp only at hSw); go_simp <;> with_reducible rfl)
    try simp only [Act.put, List.setIfInBounds_toArray, List.set_cons_zero, List.set_cons_succ]
    -- 7: t38 := nilCheck t37 : 0
    refine wpB_take (i := 7) (v := ?_) (get_of_drop rfl) (by kernel_rfl) (by kernel_rfl) (by kernel_rfl) (by kernel_rfl) (fun _ _ _ h => h) (Or.inl ⟨by rfl, ?_⟩) hHeld ?_
    rotate_left
    · (intro w hSw; (try dsimp only at hSw); go_simp <;> with_reducible rfl)
    try simp only [Act.put, List.setIfInBounds_toArray, List.set_cons_zero, List.set_cons_succ]
    -- 8: t39 := fieldAddr 75 t38 1 : 0
    refine wpB_take (i := 8) (v := ?_) (get_of_drop rfl) (by kernel_rfl) (by kernel_rfl) (by kernel_rfl) (by kernel_rfl) (fun _ _ _ h => h) (Or.inl ⟨by rfl, ?_⟩) hHeld ?_
    rotate_left
    · (intro w hSw; (try dsimp only at hSw); go_simp <;> with_reducible rfl)
    try simp only [Act.put, List.setIfInBounds_toArray, List.set_cons_zero, List.set_cons_succ]
    -- 9: t40 := load 3 t39 : 3
    refine wpB_take (i := 9) (v := ?_) (get_of_drop rfl) (by kernel_rfl) (by kernel_rfl) (by kernel_rfl) (by kernel_rfl) (fun _ _ _ h => h) (Or.inl ⟨by rfl, ?_⟩) hHeld ?_
    rotate_left
    · (intro w hSw; (try dsimp only at hSw); go_simp <;> with_reducible rfl)
    try simp only [Act.put, List.setIfInBounds_toArray, List.set_cons_zero, List.set_cons_succ]
    -- 10: t41 := move t0 : 73
    refine wpB_take (i := 10) (v := ?_) (get_of_drop rfl) (by kernel_rfl) (by kernel_rfl) (by kernel_rfl) (by kernel_rfl) (fun _ _ _ h => h) (Or.inl ⟨by rfl, ?_⟩) hHeld ?_
    rotate_left
    · (intro w hSw; (try dsimp only at hSw); go_simp <;> with_reducible rfl)
    try simp only [Act.put, List.setIfInBounds_toArray, List.set_cons_zero, List.set_cons_succ]
    -- 11: t42 := nilCheck t41 : 0
    refine wpB_take (i := 11) (v := ?_) (get_of_drop rfl) (by kernel_rfl) (by kernel_rfl) (by kernel_rfl) (by kernel_rfl) (fun _ _ _ h => h) (Or.inl ⟨by rfl, ?_⟩) hHeld ?_
    rotate_left
    · (intro w hSw; (try dsimp only at hSw); go_simp <;> with_reducible rfl)
    try simp only [Act.put, List.setIfInBounds_toArray, List.set_cons_zero, List.set_cons_succ]
    -- 12: t43 := fieldAddr 75 t42 1 : 0
    refine wpB_take (i := 12) (v := ?_) (get_of_drop rfl) (by kernel_rfl) (by kernel_rfl) (by kernel_rfl) (by kernel_rfl) (fun _ _ _ h => h) (Or.inl ⟨by rfl, ?_⟩) hHeld ?_
    rotate_left
    · (intro w hSw; (try dsimp only at hSw); go_simp <;> with_reducible rfl)
    try simp only [Act.put, List.setIfInBounds_toArray, List.set_cons_zero, List.set_cons_succ]
    -- 13: t44 := load 3 t43 : 3
    refine wpB_take (i := 13) (v := ?_) (get_of_drop rfl) (by kernel_rfl) (by kernel_rfl) (by kernel_rfl) (by kernel_rfl) (fun _ _ _ h => h) (Or.inl ⟨by rfl, ?_⟩) hHeld ?_
    rotate_left
    · (intro w hSw; (try dsimp only at hSw); go_simp <;> with_reducible rfl)
    try simp only [Act.put, List.setIfInBounds_toArray, List.set_cons_zero, List.set_cons_succ]
    -- 14: t45 := move t4 : 3
    refine wpB_take (i := 14) (v := ?_) (get_of_drop rfl) (by kernel_rfl) (by kernel_rfl) (by kernel_rfl) (by kernel_rfl) (fun _ _ _ h => h) (Or.inl ⟨by rfl, ?_⟩) hHeld ?_
    rotate_left
    · (intro w hSw; (try dsimp only at hSw); go_simp <;> with_reducible rfl)
    try simp only [Act.put, List.setIfInBounds_toArray, List.set_cons_zero, List.set_cons_succ]
    -- 15: t46 := binOp BinOp.add 3 t44 t45 3 : 3
    refine wpB_take (i := 15) (v := ?_) (get_of_drop rfl) (by kernel_rfl) (by kernel_rfl) (by kernel_rfl) (by kernel_rfl) (fun _ _ _ h => h) (Or.inl ⟨by rfl, ?_⟩) hHeld ?_
    rotate_left
    · (intro w hSw; (try dsimp only at hSw); go_simp <;> with_reducible rfl)
    try simp only [Act.put, List.setIfInBounds_toArray, List.set_cons_zero, List.set_cons_succ]
    -- 16: t47 := slice 25 t36 some t40 some t46 none : 25
    refine wpB_take (i := 16) (v := ?_) (get_of_drop rfl) (by kernel_rfl) (by kernel_rfl) (by kernel_rfl) (by kernel_rfl) (fun _ _ _ h => h) (Or.inl ⟨by rfl, ?_⟩) hHeld ?_
    rotate_left
    · (intro w hSw; (try dsimp only at hSw); go_simp <;> with_reducible rfl)
    try simp only [Act.put, List.setIfInBounds_toArray, List.set_cons_zero, List.set_cons_succ]
    -- 17: t48 := convert 25 9 t47 : 9
    refine wpB_take (i := 17) (v := ?_) (get_of_drop rfl) (by kernel_rfl) (by kernel_rfl) (by kernel_rfl) (by kernel_rfl) (fun _ _ _ h => h) (Or.inl ⟨by rfl, ?_⟩) hHeld ?_
    rotate_left
    · (intro w hSw; (try dsimp only at hSw); go_simp <;> with_reducible rfl)
    try simp only [Act.put, List.setIfInBounds_toArray, List.set_cons_zero, List.set_cons_succ]
    -- 18: t49 := move t0 : 73
    refine wpB_take (i := 18) (v := ?_) (get_of_drop rfl) (by kernel_rfl) (by kernel_rfl) (by kernel_rfl) (by kernel_rfl) (fun _ _ _ h => h) (Or.inl ⟨by rfl, ?_⟩) hHeld ?_
    rotate_left
    · (intro w hSw; (try dsimp only at hSw); go_simp <;> with_reducible rfl)
    try simp only [Act.put, List.setIfInBounds_toArray, List.set_cons_zero, List.set_cons_succ]
    -- 19: t50 := nilCheck t49 : 0
    refine wpB_take (i := 19) (v := ?_) (get_of_drop rfl) (by kernel_rfl) (by kernel_rfl) (by kernel_rfl) (by kernel_rfl) (fun _ _ _ h => h) (Or.inl ⟨by rfl, ?_⟩) hHeld ?_
    rotate_left
    · (intro w hSw; (try dsimp only at hSw); go_simp <;> with_reducible rfl)
    try simp only [Act.put, List.setIfInBounds_toArray, List.set_cons_zero, List.set_cons_succ]
    -- 20: t51 := fieldAddr 75 t50 1 : 0
    refine wpB_take (i := 20) (v := ?_) (get_of_drop rfl) (by kernel_rfl) (by kernel_rfl) (by kernel_rfl) (by kernel_rfl) (fun _ _ _ h => h) (Or.inl ⟨by rfl, ?_⟩) hHeld ?_
    rotate_left
    · (intro w hSw; (try dsimp only at hSw); go_simp <;> with_reducible rfl)
    try simp only [Act.put, List.setIfInBounds_toArray, List.set_cons_zero, List.set_cons_succ]
    -- 21: t52 := load 3 t51 : 3
    refine wpB_take (i := 21) (v := ?_) (get_of_drop rfl) (by kernel_rfl) (by kernel_rfl) (by kernel_rfl) (by kernel_rfl) (fun _ _ _ h => h) (Or.inl ⟨by rfl, ?_⟩) hHeld ?_
    rotate_left
    · (intro w hSw; (try dsimp only at hSw); go_simp <;> with_reducible rfl)
    try simp only [Act.put, List.setIfInBounds_toArray, List.set_cons_zero, List.set_cons_succ]
    -- 22: t53 := move t4 : 3
    refine wpB_take (i := 22) (v := ?_) (get_of_drop rfl) (by kernel_rfl) (by kernel_rfl) (by kernel_rfl) (by kernel_rfl) (fun _ _ _ h => h) (Or.inl ⟨by rfl, ?_⟩) hHeld ?_
    rotate_left
    · (intro w hSw; (try dsimp only at hSw); go_simp <;> with_reducible rfl)
    try simp only [Act.put, List.setIfInBounds_toArray, List.set_cons_zero, List.set_cons_succ]
    -- 23: t54 := binOp BinOp.add 3 t52 t53 3 : 3
    refine wpB_take (i := 23) (v := ?_) (get_of_drop rfl) (by kernel_rfl) (by kernel_rfl) (by kernel_rfl) (by kernel_rfl) (fun _ _ _ h => h) (Or.inl ⟨by rfl, ?_⟩) hHeld ?_
    rotate_left
    · (intro w hSw; (try dsimp only at hSw); go_simp <;> with_reducible rfl)
    try simp only [Act.put, List.setIfInBounds_toArray, List.set_cons_zero, List.set_cons_succ]
    -- 24: t55 := nilCheck t31 : 0
    refine wpB_take (i := 24) (v := ?_) (get_of_drop rfl) (by kernel_rfl) (by kernel_rfl) (by kernel_rfl) (by kernel_rfl) (fun _ _ _ h => h) (Or.inl ⟨by rfl, ?_⟩) hHeld ?_
    rotate_left
    · (intro w hSw; (try dsimp only at hSw); go_simp <;> with_reducible rfl)
    try simp only [Act.put, List.setIfInBounds_toArray, List.set_cons_zero, List.set_cons_succ]
    -- 25: t- := store 9 t55 t48 : 0
    refine wpB_act (i := 25) (by kernel_rfl) (get_of_drop rfl) (fun K hK => ?_)
    go_simp
    refine hK.out _ _ ?_ (fun hHeld2 => ?_)
    · (first | assumption | exact hHeld.set (fun _ => rfl) _)
    clear hHeld hK K
    have hHeld := hHeld2
    clear hHeld2
    try simp only [Act.put, List.setIfInBounds_toArray, List.set_cons_zero, List.set_cons_succ]
    -- 26: t56 := nilCheck t32 : 0
    refine wpB_take (i := 26) (v := ?_) (get_of_drop rfl) (by kernel_rfl) (by kernel_rfl) (by kernel_rfl) (by kernel_rfl) (fun _ _ _ h => h) (Or.inl ⟨by rfl, ?_⟩) hHeld ?_
    rotate_left
    · (intro w hSw; (try dsimp only at hSw); go_simp <;> with_reducible rfl)
    try simp only [Act.put, List.setIfInBounds_toArray, List.set_cons_zero, List.set_cons_succ]
    -- 27: t57 := fieldAddr 75 t56 1 : 0
    refine wpB_take (i := 27) (v := ?_) (get_of_drop rfl) (by kernel_rfl) (by kernel_rfl) (by kernel_rfl) (by kernel_rfl) (fun _ _ _ h => h) (Or.inl ⟨by rfl, ?_⟩) hHeld ?_
    rotate_left
    · (intro w hSw; (try dsimp only at hSw); go_simp <;> with_reducible rfl)
    try simp only [Act.put, List.setIfInBounds_toArray, List.set_cons_zero, List.set_cons_succ]
    -- 28: t- := store 3 t57 t54 : 0 (BARRIER)
    refine wpB_bar (i := 28) (by kernel_rfl) (get_of_drop rfl) (by kernel_rfl) (fun K hK => ?_)
    go_simp
    refine hK.out _ _ (fun _ : World => True) ?_
    clear hHeld hK K
    have hHeld := trivial
    try simp only [Act.put, List.setIfInBounds_toArray, List.set_cons_zero, List.set_cons_succ]
    refine wpB_done (by kernel_rfl) ?_ _
    clear hHeld hM hc0 hc1 f1 fp cp hcut
    go_end0
    refine ⟨rfl, bstr ((b.drop at').take q), ?_, ?_⟩
    · rw [bstr_size, List.length_take]
      exact Nat.le_trans (Nat.min_le_left _ _) (by simp [maxLen]; omega)
    · have q1 := text_end HRD.out HP1.out hus hpB hpg hqle (bstr ((b.drop at').take q))
      refine ⟨q1.1, (HC.out.mono (fun _ h _ => .inl h)).trans q1.2.1 (fun _ h _ => h), at' + q, false, q1.2.2, ?_⟩
      rw [rdText_of HE.out, left_some, left_some, Option.map_some, Option.map_some, List.drop_drop, bts_bstr]
end Go.Proofs.Ytcmfgijdelaelaa.Pa
