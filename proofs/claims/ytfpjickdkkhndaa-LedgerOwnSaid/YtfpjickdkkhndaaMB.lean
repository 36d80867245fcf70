/- Texts of this claim, one behind the other: PackT, PackU, PackK, PackLr, PackLi, PackE, PackF. -/
import Derived.Test.YtfpjickdkkhndaaMA
import Derived.Shelf.Abstract

/- The contracts of the codec's count and text. -/

namespace Go.Proofs.Ytfpjickdkkhndaa.Pa

set_option linter.unusedVariables false

set_option linter.unusedSimpArgs false

open Go.RowKit Go.Proofs.Ytfpjickdkkhndaa.C

attribute [local go_sem] max2_int min2_int max_two min_two

theorem ptr_sees (W : World) (p : Addr) (e : TypeId) : Sees (W.alloc (.cells #[.pointer (some p)] e)) (fun k => k = W.heap.size) (some ⟨W.heap.size, 0, none⟩) [.pointer (some p)] := one_sees W _ e

set_option maxHeartbeats 2000000 in
set_option maxRecDepth 100000 in
theorem count_w {w : World} {S : Nat → Prop} {g : Nat} {v : Value} {x : List UInt8} {n : Int} (h : Wr w S g v x) (hok : NumOk n) (hx : x.length ≤ 1000000000) (least : Int) :
    Calls Try.prog 84 #[.pointer (some ⟨g, 0, none⟩), .int .i64 n, .int .i64 least] w fun e w' => e = .returned (.int .i64 n) ∧ WrTo S g (x ++ num n) w w' := by
  have HB := hid h.bound
  have HG := hid h.lt
  have HOK := hid hok
  obtain ⟨o, ho⟩ : ∃ o, o = w.heap.size := ⟨_, rfl⟩
  have HO := hid ho
  clear h hok ho
  go_enter Try.func84, Try.ntmps84
  go_wp2_with fail
  obtain ⟨w1, hw1⟩ : ∃ w1, w1 = w.alloc (.cells #[.int .i64 n] 3) := ⟨_, rfl⟩
  obtain ⟨w2, hw2⟩ : ∃ w2, w2 = w1.alloc (.cells #[.pointer (some ⟨w.heap.size, 0, none⟩)] 130) := ⟨_, rfl⟩
  have hz1 : w1.heap.size = w.heap.size + 1 := by rw [hw1]; simp
  have B1 : w1.heap[w.heap.size]? = some (.cells #[.int .i64 n] 3 (0, 0)) := by rw [hw1]; exact blk_new w _
  have B2 := hid (show w2.heap[w.heap.size]? = some (.cells #[.int .i64 n] 3 (0, 0)) by rw [hw2]; exact blk_alloc B1 _)
  have C2 := hid (show Chg (fun _ => False) w w2 by rw [hw2, hw1]; exact ((Chg.refl _ w).alloc _).alloc _)
  have P2 := hid (show Sees w2 (fun k => k = w1.heap.size) (some ⟨w.heap.size + 1, 0, none⟩) (ptrs w.heap.size [n].length) by rw [hw2, ← hz1]; exact ptr_sees w1 _ _)
  rw [← hw1, ← hw2]
  clear hw1 hw2
  refine (num_w (vs := [n]) (HB.out.chg C2.out (fun _ _ h => h)) P2.out (fun k hk hs => by have := hs.2; omega) (fun i u hi => by
    cases i with
    | zero => simp at hi; subst hi; rw [cellAt B2.out]; rfl
    | succ i => simp at hi) (fun hs => Nat.lt_irrefl _ hs.2) (fun u hu => by rw [List.mem_singleton.1 hu]; exact HOK.out) hx (by simp)).mono ?_
  rintro e w3 ⟨rfl, h3⟩
  rw [List.flatMap_singleton] at h3
  have HT := hid (WrTo.pre C2.out h3 (fun k hk => .inl hk.1))
  obtain ⟨v3, hv3, hc3⟩ := h3
  obtain ⟨d0, d1, d2, d3⟩ := hv3.cells
  have bx : w3.cell? ⟨w.heap.size, 0, none⟩ = some (.int .i64 n) := hc3.cell (by rw [cellAt B2.out]; rfl) (fun hs => Nat.lt_irrefl _ hs.2)
  clear hv3 hc3
  go_wp2_with fail
  go_quiet (fail)
  go_wp2_with fail
  go_ret
  exact ⟨rfl, HT.out.drewN _⟩

theorem rdCountL_of {L : Nat} {X Y : Option (List UInt8)} {u : Int} (h : X.bind (rdList rdNum 1) = Y.map fun r => ([u], r)) : X.bind (rdCountL L) = Y.bind fun r => if u < 0 ∨ (((r.length / L : Nat)) : Int) < u then none else some (u.toNat, r) := by
  have e := rdList_succ rdNum 0
  cases X with
  | none => cases Y with
    | none => rfl
    | some y => simp at h
  | some xb =>
    rw [Option.bind_some, e] at h
    rw [Option.bind_some]
    unfold rdCountL
    cases hr : rdNum xb with
    | none =>
      rw [hr] at h
      cases Y with
      | none => rfl
      | some y => simp at h
    | some r =>
      rw [hr] at h
      cases Y with
      | none => simp [rdList] at h
      | some y =>
        simp [rdList] at h
        obtain ⟨h1, h2⟩ := h
        subst h1 h2
        rfl

theorem Rd.stops {w : World} {B g : Nat} {A : Option Addr} {n c : Nat} {b : List UInt8} {at' : Nat} {bad' : Bool} (h : Rd w B g A n c b at' bad') {at_ : Nat} {bad : Bool} {L : Nat} {u : Int} (he : (left b at_ bad).bind (rdCountL L) = (left b at' bad').bind fun r => if u < 0 ∨ (((r.length / L : Nat)) : Int) < u then none else some (u.toNat, r))
    (hc : bad' = true ∨ u < 0 ∨ (((n - at') / L : Nat) : Int) < u) (q x : Nat) : RdTo B g A n c b at_ bad (rdCountL L) ((w.drewN q).setCell ⟨g, 3, none⟩ (.bool true)) x := by
  refine ⟨at', true, (h.chg ((Chg.refl (fun _ => False) w).drewN q) (fun _ h => h.elim) (fun h => h)).setBad true, ?_⟩
  rw [he, left_none, Option.map_none]
  cases bad' with
  | true => rfl
  | false =>
    rw [left_some, Option.bind_some, if_pos]
    rcases hc with hc | hc | hc
    · cases hc
    · exact .inl hc
    · exact .inr (by rw [List.length_drop, ← h.row.1]; exact hc)
/-- A count was read. -/
def CountTo (w : World) (B g : Nat) (A : Option Addr) (n c : Nat) (b : List UInt8) (at_ : Nat) (bad : Bool) (L : Nat) (e : Ending) (w' : World) : Prop :=
  ∃ q : Nat, e = .returned (.int .i64 (q : Int)) ∧ q ≤ n ∧ Chg (fun j => j = g) w w' ∧ RdTo B g A n c b at_ bad (rdCountL L) w' q

set_option maxHeartbeats 2000000 in
set_option maxRecDepth 100000 in
theorem count_r {w : World} {B g : Nat} {A : Option Addr} {n c : Nat} {b : List UInt8} {at_ : Nat} {bad : Bool} (h : Rd w B g A n c b at_ bad) {k : Int} (hk : (Lit.int .i64 k).wf = true) (hn : n ≤ 1000000000) {L : Nat} (hL : 0 < L) (hL2 : L ≤ 1000) :
    Calls Try.prog 84 #[.pointer (some ⟨g, 0, none⟩), .int .i64 k, .int .i64 (L : Int)] w (CountTo w B g A n c b at_ bad L) := by
  have H := hid h
  have HG := hid h.lt
  have HK := hid hk
  have hn2 : (n : Int) ≤ 1000000000 := by omega
  have hL3 : (0 : Int) < (L : Int) := by omega
  clear h hk
  go_enter Try.func84, Try.ntmps84
  go_wp2_with fail
  obtain ⟨w1, hw1⟩ : ∃ w1, w1 = w.alloc (.cells #[.int .i64 k] 3) := ⟨_, rfl⟩
  obtain ⟨w2, hw2⟩ : ∃ w2, w2 = w1.alloc (.cells #[.pointer (some ⟨w.heap.size, 0, none⟩)] 130) := ⟨_, rfl⟩
  have hz1 : w1.heap.size = w.heap.size + 1 := by rw [hw1]; simp
  have B1 : w1.heap[w.heap.size]? = some (.cells #[.int .i64 k] 3 (0, 0)) := by rw [hw1]; exact blk_new w _
  have B2 := hid (show w2.heap[w.heap.size]? = some (.cells #[.int .i64 k] 3 (0, 0)) by rw [hw2]; exact blk_alloc B1 _)
  have C2 := hid (show Chg (fun _ => False) w w2 by rw [hw2, hw1]; exact ((Chg.refl _ w).alloc _).alloc _)
  have P2 := hid (show Sees w2 (fun k => k = w1.heap.size) (some ⟨w.heap.size + 1, 0, none⟩) (ptrs w.heap.size [k].length) by rw [hw2, ← hz1]; exact ptr_sees w1 _ _)
  rw [← hw1, ← hw2]
  clear hw1 hw2
  refine (num_r (vs := [k]) (r := []) (H.out.chg C2.out (fun _ h => h.elim) (fun h => h)) P2.out (fun j hj => by have := HG.out; omega) B2.out (by have := H.out.low; have := HG.out; omega) (by have := HG.out; omega) (fun u hu => by rw [List.mem_singleton.1 hu]; exact HK.out) hn (by simp)).mono ?_
  rintro e w3 ⟨rfl, us, hus, hwf, hblk, hchg, at', bad', hrd, heq⟩
  obtain ⟨u, rfl⟩ : ∃ u, us = [u] := by
    match us, hus with
    | [u], _ => exact ⟨u, rfl⟩
  have HU := hid (wf64 (hwf u (List.mem_singleton.2 rfl)))
  have HC := hid (C2.out.mono (S' := fun j => j = g) (fun _ h _ => h.elim) |>.trans hchg (fun j hj hlt => by have : j = g ∨ j = w.heap.size := hj; omega))
  have HRD := hid hrd
  have HE := hid (rdCountL_of (L := L) heq)
  have hle := hrd.le
  obtain ⟨d0, d1, d2, d3⟩ := hrd.cells
  have f3 : w3.frozen? ⟨g, 3, none⟩ = false := freeAt hrd.blk 3
  have bx : w3.cell? ⟨w.heap.size, 0, none⟩ = some (.int .i64 u) := by rw [cellAt hblk]; rfl
  clear hus hwf hblk hchg hrd heq HK P2
  go_wp2_with fail
  have hc1 : ∀ nq, Chg (fun j => j = g) w ((w3.drewN nq).setCell ⟨g, 3, none⟩ (.bool true)) := fun nq => (HC.out.drewN nq).trans ((Chg.refl (fun j => j = g) _).set (p := ⟨g, 3, none⟩) (fun _ => rfl) _) (fun _ h _ => h)
  have HC1 := hid hc1
  clear hc1
  cases bad' with
  | true =>
    go_quiet (fail)
    go_wp2_with fail
    go_ret
    exact ⟨0, rfl, Nat.zero_le _, HC1.out _, HRD.out.stops HE.out (.inl rfl) _ _⟩
  | false =>
    have e6 : IntKind.i64.wrap ((n : Int) - (at' : Int)) = (n : Int) - (at' : Int) := IntWalk.i64_in _ (by omega)
    by_cases hu0 : u < 0
    · go_quiet (fail)
      go_wp2_with fail
      go_ret
      exact ⟨0, rfl, Nat.zero_le _, HC1.out _, HRD.out.stops HE.out (.inr (.inl hu0)) _ _⟩
    · go_quiet (fail)
      obtain ⟨d, hd⟩ : ∃ d : Nat, d = (n - at') / L := ⟨_, rfl⟩
      have hdi : ((n : Int) - (at' : Int)) / (L : Int) = (d : Int) := by rw [hd, ← Int.natCast_sub hle]; rfl
      have HD := hid hd
      rw [hdi]
      clear hdi hd e6
      by_cases hcd : (d : Int) < u
      · go_wp2_with fail
        go_ret
        exact ⟨0, rfl, Nat.zero_le _, HC1.out _, HRD.out.stops HE.out (.inr (.inr (by rw [← HD.out]; exact hcd))) _ _⟩
      · go_wp2_with fail
        go_ret
        have hdn : d ≤ n := by rw [HD.out]; exact Nat.le_trans (Nat.div_le_self _ _) (Nat.sub_le _ _)
        refine ⟨u.toNat, ?_, by omega, HC.out.drewN _, at', false, HRD.out.chg ((Chg.refl (fun _ => False) w3).drewN _) (fun _ h => h.elim) (fun h => h), ?_⟩
        · rw [Int.toNat_of_nonneg (by omega)]
          rfl
        · have := HE.out
          rw [left_some, Option.bind_some, if_neg (by rw [List.length_drop, ← HRD.out.row.1, ← HD.out]; omega)] at this
          exact this

set_option maxHeartbeats 4000000 in
set_option maxRecDepth 100000 in
theorem text_w {w : World} {S : Nat → Prop} {g p o : Nat} {v : Value} {x : List UInt8} {s : ByteArray} (h : Wr w S g v x) (hp : w.cell? ⟨p, o, none⟩ = some (.string s)) (hpS : ¬ S p) (hs : s.size ≤ 100000) (hx : x.length ≤ 900000000) :
    Calls Try.prog 92 #[.pointer (some ⟨g, 0, none⟩), .pointer (some ⟨p, o, none⟩)] w fun e w' => e = .returned (.tuple #[]) ∧ WrTo S g (x ++ num s.size ++ bts s) w w' := by
  have H := hid h
  have HP := hid hp
  have hpl : p < w.heap.size := World.block_lt_of_cell? w _ hp
  have hs2 : (s.size : Int) ≤ 100000 := by omega
  clear h
  go_enter Try.func92, Try.ntmps92
  go_wp2_with fail
  refine (count_w H.out (n := (s.size : Int)) ⟨by omega, by omega⟩ (by omega) 1).mono ?_
  rintro e w1 ⟨rfl, v1, h1, hc1⟩
  have H1 := hid h1
  have HC1 := hid hc1
  obtain ⟨nx, hnx⟩ : ∃ nx, nx = (x ++ num s.size).length := ⟨_, rfl⟩
  have NX := hid hnx
  have hnxb : nx ≤ 900000100 := by rw [hnx, List.length_append, num_len]; omega
  obtain ⟨A1, c1, hv1⟩ := h1.form
  rw [← hnx] at hv1
  subst hv1
  obtain ⟨M, hMM⟩ : ∃ M : Nat → Prop, ∀ i, M i ↔ (Value.slice A1 nx c1).ownBlock = some i := ⟨_, fun _ => Iff.rfl⟩
  have MM := hid hMM
  obtain ⟨d0, d1, d2, d3⟩ := h1.cells
  have hcell0 : ∀ wx, Chg M w1 wx → wx.cell? ⟨g, 0, none⟩ = some (.slice A1 nx c1) := fun wx hx => hx.cell d0 (fun h => H1.out.ne ((MM.out _).1 h))
  have hcellp : ∀ wx, Chg M w1 wx → wx.cell? ⟨p, o, none⟩ = some (.string s) := fun wx hx => hx.cell (HC1.out.cell HP.out hpS) (fun h => by
    rcases H1.out.rowS _ ((MM.out _).1 h) with q | q
    · exact hpS q
    · simp only at q; omega)
  clear h1 hc1 hp hnx hMM d0 d1 d3
  go_wp2_with fail
  refine wpB_start (fun wx : World => Chg M w1 wx) (by kernel_rfl) ?_
  have hHeld : (fun wx : World => Chg M w1 wx) _ := (by first | assumption | exact Chg.drew (Chg.refl _ _) | (show _ ∧ _; refine ⟨?_, ?_⟩ <;> assumption) | (first | assumption | exact hHeld.trans h2 (fun _ h _ => (MM.out _).2 h)))
  -- 0: t15 := move t0 : 105
  refine wpB_take (i := 0) (v := ?_) (get_of_drop rfl) (by kernel_rfl) (by kernel_rfl) (by kernel_rfl) (by kernel_rfl) (fun _ _ _ h => h) (Or.inl ⟨by rfl, ?_⟩) hHeld ?_
  rotate_left
  · (intro w hSw; (try dsimp only at hSw); go_simp <;> with_reducible rfl)
  try simp only [Act.put, List.setIfInBounds_toArray, List.set_cons_zero, List.set_cons_succ]
  -- 1: t16 := move t0 : 105
  refine wpB_take (i := 1) (v := ?_) (get_of_drop rfl) (by kernel_rfl) (by kernel_rfl) (by kernel_rfl) (by kernel_rfl) (fun _ _ _ h => h) (Or.inl ⟨by rfl, ?_⟩) hHeld ?_
  rotate_left
  · (intro w hSw; (try dsimp only at hSw); go_simp <;> with_reducible rfl)
  try simp only [Act.put, List.setIfInBounds_toArray, List.set_cons_zero, List.set_cons_succ]
  -- 2: t17 := nilCheck t16 : 0
  refine wpB_take (i := 2) (v := ?_) (get_of_drop rfl) (by kernel_rfl) (by kernel_rfl) (by kernel_rfl) (by kernel_rfl) (fun _ _ _ h => h) (Or.inl ⟨by rfl, ?_⟩) hHeld ?_
  rotate_left
  · (intro w hSw; (try dsimp only at hSw); go_simp <;> with_reducible rfl)
  try simp only [Act.put, List.setIfInBounds_toArray, List.set_cons_zero, List.set_cons_succ]
  -- 3: t18 := fieldAddr 107 t17 0 : 0
  refine wpB_take (i := 3) (v := ?_) (get_of_drop rfl) (by kernel_rfl) (by kernel_rfl) (by kernel_rfl) (by kernel_rfl) (fun _ _ _ h => h) (Or.inl ⟨by rfl, ?_⟩) hHeld ?_
  rotate_left
  · (intro w hSw; (try dsimp only at hSw); go_simp <;> with_reducible rfl)
  try simp only [Act.put, List.setIfInBounds_toArray, List.set_cons_zero, List.set_cons_succ]
  -- 4: t19 := load 36 t18 : 36
  refine wpB_take (i := 4) (v := ?_) (get_of_drop rfl) (by kernel_rfl) (by kernel_rfl) (by kernel_rfl) (by kernel_rfl) (fun _ _ _ h => h) (Or.inl ⟨by rfl, ?_⟩) hHeld ?_
  rotate_left
  · (intro w hSw; (try dsimp only at hSw); go_simp <;> with_reducible rfl)
  try simp only [Act.put, List.setIfInBounds_toArray, List.set_cons_zero, List.set_cons_succ]
  -- 5: t20 := move t1 : 152
  refine wpB_take (i := 5) (v := ?_) (get_of_drop rfl) (by kernel_rfl) (by kernel_rfl) (by kernel_rfl) (by kernel_rfl) (fun _ _ _ h => h) (Or.inl ⟨by rfl, ?_⟩) hHeld ?_
  rotate_left
  · (intro w hSw; (try dsimp only at hSw); go_simp <;> with_reducible rfl)
  try simp only [Act.put, List.setIfInBounds_toArray, List.set_cons_zero, List.set_cons_succ]
  -- 6: t21 := nilCheck t20 : 0
  refine wpB_take (i := 6) (v := ?_) (get_of_drop rfl) (by kernel_rfl) (by kernel_rfl) (by kernel_rfl) (by kernel_rfl) (fun _ _ _ h => h) (Or.inl ⟨by rfl, ?_⟩) hHeld ?_
  rotate_left
  · (intro w hSw; (try dsimp only at hSw); go_simp <;> with_reducible rfl)
  try simp only [Act.put, List.setIfInBounds_toArray, List.set_cons_zero, List.set_cons_succ]
  -- 7: t22 := load 9 t21 : 9
  refine wpB_take (i := 7) (v := ?_) (get_of_drop rfl) (by kernel_rfl) (by kernel_rfl) (by kernel_rfl) (by kernel_rfl) (fun _ _ _ h => h) (Or.inl ⟨by rfl, ?_⟩) hHeld ?_
  rotate_left
  · (intro w hSw; (try dsimp only at hSw); go_simp <;> with_reducible rfl)
  try simp only [Act.put, List.setIfInBounds_toArray, List.set_cons_zero, List.set_cons_succ]
  -- 8: t23 := append(t19, t22) types [36, 9] : 36
  refine wpB_act (i := 8) (by kernel_rfl) (get_of_drop rfl) (fun K hK => ?_)
  refine appstr_step _ rfl (.tmp 19) (.tmp 22) 36 9 5 rfl Try.underlying36 Try.underlying9 info5 (.slice A1 nx c1) nx (u8s (x ++ num s.size)) rfl (by have q := fun W (hW : Chg (fun _ => False) w1 W) => hW.own H1.out.row (fun _ _ h => h); (try simp only at q); rw [← NX.out] at q; exact q _ (Chg.refl _ w1).drew) s rfl (by omega) ?_
  have HH := hid hHeld
  intro A3 c3 w2 h1 h2 h3
  have f0' : w2.frozen? ⟨g, 0, none⟩ = false := freeAt ((HH.out.trans h2 (fun _ h _ => (MM.out _).2 h)).blk H1.out.blk (fun h => H1.out.ne ((MM.out _).1 h))) 0
  have c0' : w2.cell? ⟨g, 0, none⟩ = some (.slice A1 nx c1) := hcell0 _ (HH.out.trans h2 (fun _ h _ => (MM.out _).2 h))
  refine hK.out _ _ ?_ (fun hHeld2 => ?_)
  · (first | assumption | exact hHeld.trans h2 (fun _ h _ => (MM.out _).2 h))
  clear hHeld hK K
  have hHeld := hHeld2
  clear hHeld2
  try simp only [Act.put, List.setIfInBounds_toArray, List.set_cons_zero, List.set_cons_succ]
  -- 9: t24 := nilCheck t15 : 0
  refine wpB_take (i := 9) (v := ?_) (get_of_drop rfl) (by kernel_rfl) (by kernel_rfl) (by kernel_rfl) (by kernel_rfl) (fun _ _ _ h => h) (Or.inl ⟨by rfl, ?_⟩) hHeld ?_
  rotate_left
  · (intro w hSw; (try dsimp only at hSw); go_simp <;> with_reducible rfl)
  try simp only [Act.put, List.setIfInBounds_toArray, List.set_cons_zero, List.set_cons_succ]
  -- 10: t25 := fieldAddr 107 t24 0 : 0
  refine wpB_take (i := 10) (v := ?_) (get_of_drop rfl) (by kernel_rfl) (by kernel_rfl) (by kernel_rfl) (by kernel_rfl) (fun _ _ _ h => h) (Or.inl ⟨by rfl, ?_⟩) hHeld ?_
  rotate_left
  · (intro w hSw; (try dsimp only at hSw); go_simp <;> with_reducible rfl)
  try simp only [Act.put, List.setIfInBounds_toArray, List.set_cons_zero, List.set_cons_succ]
  -- 11: t- := store 36 t25 t23 : 0 (BARRIER)
  refine wpB_bar (i := 11) (by kernel_rfl) (get_of_drop rfl) (by kernel_rfl) (fun K hK => ?_)
  go_simp
  refine hK.out _ _ (fun _ : World => True) ?_
  clear hHeld hK K
  have hHeld := trivial
  try simp only [Act.put, List.setIfInBounds_toArray, List.set_cons_zero, List.set_cons_succ]
  refine wpB_done (by kernel_rfl) ?_ _
  have HN := hid (wr_set (y := x ++ num s.size ++ bts s) HC1.out H1.out (v' := .slice A3 (nx + s.size) c3) (by rw [List.length_append, bts_length, u8s_append, ← NX.out]; exact h1) ((Chg.refl (fun j => (Value.slice A1 nx c1).ownBlock = some j) w1).drew.trans h2 (fun _ h _ => h)) h3)
  clear h1 h2 h3 hHeld hcell0 hcellp f0' c0' d2
  go_wp2_with fail
  go_end0
  exact ⟨rfl, by rw [← List.append_assoc]; exact HN.out⟩

/-- A text was read into cell 4 of a block. -/
def TextTo (w : World) (B g : Nat) (A : Option Addr) (n c : Nat) (b : List UInt8) (at_ : Nat) (bad : Bool) (p tp : Nat) (us : List Int) (w' : World) : Prop :=
  ∃ s : ByteArray, s.size ≤ maxLen ∧ w'.heap[p]? = some (.cells (ints us ++ [Value.string s]).toArray tp (0, 0)) ∧ Chg (fun j => j = g ∨ j = p) w w' ∧ RdTo B g A n c b at_ bad rdText w' (bts s)
theorem rdText_of {X Y : Option (List UInt8)} {q : Nat} (h : X.bind (rdCountL 1) = Y.map fun r => (q, r)) : X.bind rdText = Y.map fun r => (r.take q, r.drop q) := by
  cases X with
  | none => cases Y with
    | none => rfl
    | some y => simp at h
  | some xb =>
    rw [Option.bind_some] at h ⊢
    unfold rdText
    rw [h]
    cases Y <;> rfl
theorem count_le {X : Option (List UInt8)} {L : Nat} {q at' n : Nat} {b : List UInt8} (h : X.bind (rdCountL L) = (left b at' false).map fun r => (q, r)) (hn : n = b.length) (hle : at' ≤ n) : at' + q ≤ n := by
  cases X with
  | none => cases h
  | some xb =>
    rw [Option.bind_some, left_some, Option.map_some] at h
    unfold rdCountL at h
    cases hr : rdNum xb with
    | none => rw [hr] at h; cases h
    | some r =>
      rw [hr, Option.bind_some] at h
      split at h
      · cases h
      · rename_i hc
        injection h with h
        injection h with h1 h2
        have h3 : r.2.length / L ≤ r.2.length := Nat.div_le_self _ _
        have h4 : r.2.length = n - at' := by rw [h2, List.length_drop, hn]
        omega
theorem drop_take_q {b : List UInt8} {at_ q : Nat} : (b.take (at_ + q)).drop at_ = (b.drop at_).take q := by
  rw [List.drop_take]
  congr 1
  omega
theorem set_str (us : List Int) (h : us.length = 4) (s t : ByteArray) : (ints us ++ [Value.string s]).toArray.setIfInBounds 4 (.string t) = (ints us ++ [Value.string t]).toArray := by
  apply Array.ext'
  rw [Array.toList_setIfInBounds]
  simp [List.set_append, h]

theorem text_end {w : World} {B g p tp : Nat} {A : Option Addr} {n c : Nat} {b : List UInt8} {at' q : Nat} {us : List Int} {s : ByteArray} (h : Rd w B g A n c b at' false) (hp : w.heap[p]? = some (.cells (ints us ++ [Value.string s]).toArray tp (0, 0))) (hus : us.length = 4) (hpB : B ≤ p) (hpg : p ≠ g) (hq : at' + q ≤ n) (t : ByteArray) :
    ((w.setCell ⟨p, 4, none⟩ (.string t)).setCell ⟨g, 1, none⟩ (.int .i64 ((at' : Int) + (q : Int)))).drew.heap[p]? = some (.cells (ints us ++ [Value.string t]).toArray tp (0, 0)) ∧
    Chg (fun j => j = g ∨ j = p) w ((w.setCell ⟨p, 4, none⟩ (.string t)).setCell ⟨g, 1, none⟩ (.int .i64 ((at' : Int) + (q : Int)))).drew ∧
    Rd ((w.setCell ⟨p, 4, none⟩ (.string t)).setCell ⟨g, 1, none⟩ (.int .i64 ((at' : Int) + (q : Int)))).drew B g A n c b (at' + q) false := by
  have c1 : Chg (fun j => j = p) w (w.setCell ⟨p, 4, none⟩ (.string t)) := (Chg.refl (fun j => j = p) w).set (p := ⟨p, 4, none⟩) (fun _ => rfl) _
  have c2 : ∀ v, Chg (fun j => j = g) (w.setCell ⟨p, 4, none⟩ (.string t)) ((w.setCell ⟨p, 4, none⟩ (.string t)).setCell ⟨g, 1, none⟩ v) := fun v => (Chg.refl (fun j => j = g) _).set (p := ⟨g, 1, none⟩) (fun _ => rfl) v
  have r1 : Rd (w.setCell ⟨p, 4, none⟩ (.string t)) B g A n c b at' false := h.chg c1 (fun j hj => hj ▸ hpB) (fun e => hpg e.symm)
  have b1 := blk_set hp 4 (.string t)
  rw [set_str us hus] at b1
  exact ⟨(c2 _).blk b1 hpg, ((c1.mono (fun _ h _ => .inr h)).trans (c2 _) (fun _ h _ => .inl h)).drew, (r1.setAt (q := at' + q) hq).drew⟩
set_option maxHeartbeats 4000000 in
set_option maxRecDepth 100000 in
theorem text_r {w : World} {B g p tp : Nat} {A : Option Addr} {n c : Nat} {b : List UInt8} {at_ : Nat} {bad : Bool} {us : List Int} {s : ByteArray} (h : Rd w B g A n c b at_ bad) (hp : w.heap[p]? = some (.cells (ints us ++ [Value.string s]).toArray tp (0, 0))) (hus : us.length = 4) (hpB : B ≤ p) (hpg : p ≠ g) (hs : s.size ≤ maxLen) (hn : n ≤ 1000000000) :
    Calls Try.prog 92 #[.pointer (some ⟨g, 0, none⟩), .pointer (some ⟨p, 4, none⟩)] w fun e w' => e = .returned (.tuple #[]) ∧ TextTo w B g A n c b at_ bad p tp us w' := by
  have H := hid h
  have HP := hid hp
  have HS := hid hs
  have hn2 : (n : Int) ≤ 1000000000 := by omega
  have hcp : w.cell? ⟨p, 4, none⟩ = some (.string s) := by
    rw [cellAt hp]
    simp [← hus]
  have hss : (s.size : Int) ≤ 9223372036854775807 := by simp [maxLen] at hs; omega
  clear h hp hs
  go_enter Try.func92, Try.ntmps92
  go_wp2_with fail
  refine (count_r H.out (k := (s.size : Int)) (int_wf (by omega) hss) hn (L := 1) (by omega) (by omega)).mono ?_
  rintro e w1 ⟨q, rfl, hqn, hc, at', bad', hrd, heq⟩
  have HC := hid hc
  have HRD := hid hrd
  have HE := hid heq
  have HP1 := hid (hc.blk HP.out hpg)
  have hle := hrd.le
  obtain ⟨d0, d1, d2, d3⟩ := hrd.cells
  clear hc hrd heq
  cases bad' with
  | true =>
    go_wp2_with fail
    go_end0
    exact ⟨rfl, s, HS.out, HP1.out, HC.out.mono (fun _ h _ => .inl h), at', true, HRD.out, by have := rdText_of HE.out; rw [left_none] at this; exact this⟩
  | false =>
    have hqle : at' + q ≤ n := count_le HE.out HRD.out.row.1 hle
    have ea : IntKind.i64.wrap ((at' : Int) + (q : Int)) = (at' : Int) + (q : Int) := IntWalk.i64_in _ (by omega)
    obtain ⟨A6, c6, hcut, hat⟩ := Ty.At.mid_ (P := Try.prog) (d := Ty.u8) Try.underlying36 info5 A n c at' (at' + q) q (at' : Int) ((at' : Int) + (q : Int)) rfl (by omega) (by omega) (by omega) HRD.out.row.2.1 (by omega)
    have HX := hid (hat w1 _ b HRD.out.row)
    have HDT := hid (drop_take_q (b := b) (at_ := at') (q := q))
    have hM : ∀ wx, Chg (fun k => k = p) w1 wx → (convert 36 9 (.slice A6 q c6)).run Try.prog wx = .ok (.string (bstr ((b.drop at').take q))) wx := fun wx hx => by
      have q1 := HX.out.chg hx (fun k hk e => by subst e; omega)
      rw [← HDT.out]
      exact str_run Try.underlying36 Try.underlying5 Try.underlying9 q1.1 q1.bytes q1.2.2.2.1 q1.2.1
    have hc0 : ∀ wx, Chg (fun k => k = p) w1 wx → wx.cell? ⟨g, 0, none⟩ = some (.slice A n c) := fun wx hx => hx.cell d0 (fun h => hpg h.symm)
    have hc1 : ∀ wx, Chg (fun k => k = p) w1 wx → wx.cell? ⟨g, 1, none⟩ = some (.int .i64 (at' : Int)) := fun wx hx => hx.cell d1 (fun h => hpg h.symm)
    have f1 : ∀ wx, Chg (fun k => k = p) w1 wx → wx.frozen? ⟨g, 1, none⟩ = false := fun wx hx => freeAt (hx.blk HRD.out.blk (fun h => hpg h.symm)) 1
    have fp : w1.drew.frozen? ⟨p, 4, none⟩ = false := freeAt (w := w1.drew) HP1.out 4
    have cp : w1.drew.cell? ⟨p, 4, none⟩ = some (.string s) := by
      show w1.cell? _ = _
      rw [cellAt HP1.out]
      simp [← hus]
    clear hat HX HDT d0 d1
    go_wp2_with fail
    refine wpB_start (fun wx : World => Chg (fun k => k = p) w1 wx) (by kernel_rfl) ?_
    have hHeld : (fun wx : World => Chg (fun k => k = p) w1 wx) _ := (by first | assumption | exact Chg.drew (Chg.refl _ _) | (show _ ∧ _; refine ⟨?_, ?_⟩ <;> assumption) | (first | assumption | exact hHeld.set (fun _ => rfl) _))
    -- 0: t31 := move t1 : 152
    refine wpB_take (i := 0) (v := ?_) (get_of_drop rfl) (by kernel_rfl) (by kernel_rfl) (by kernel_rfl) (by kernel_rfl) (fun _ _ _ h => h) (Or.inl ⟨by rfl, ?_⟩) hHeld ?_
    rotate_left
    · (intro w hSw; (try dsimp only at hSw); go_simp <;> with_reducible rfl)
    try simp only [Act.put, List.setIfInBounds_toArray, List.set_cons_zero, List.set_cons_succ]
    -- 1: t32 := move t0 : 105
    refine wpB_take (i := 1) (v := ?_) (get_of_drop rfl) (by kernel_rfl) (by kernel_rfl) (by kernel_rfl) (by kernel_rfl) (fun _ _ _ h => h) (Or.inl ⟨by rfl, ?_⟩) hHeld ?_
    rotate_left
    · (intro w hSw; (try dsimp only at hSw); go_simp <;> with_reducible rfl)
    try simp only [Act.put, List.setIfInBounds_toArray, List.set_cons_zero, List.set_cons_succ]
    -- 2: t33 := move t0 : 105
    refine wpB_take (i := 2) (v := ?_) (get_of_drop rfl) (by kernel_rfl) (by kernel_rfl) (by kernel_rfl) (by kernel_rfl) (fun _ _ _ h => h) (Or.inl ⟨by rfl, ?_⟩) hHeld ?_
    rotate_left
    · (intro w hSw; (try dsimp only at hSw); go_simp <;> with_reducible rfl)
    try simp only [Act.put, List.setIfInBounds_toArray, List.set_cons_zero, List.set_cons_succ]
    -- 3: t34 := nilCheck t33 : 0
    refine wpB_take (i := 3) (v := ?_) (get_of_drop rfl) (by kernel_rfl) (by kernel_rfl) (by kernel_rfl) (by kernel_rfl) (fun _ _ _ h => h) (Or.inl ⟨by rfl, ?_⟩) hHeld ?_
    rotate_left
    · (intro w hSw; (try dsimp only at hSw); go_simp <;> with_reducible rfl)
    try simp only [Act.put, List.setIfInBounds_toArray, List.set_cons_zero, List.set_cons_succ]
    -- 4: t35 := fieldAddr 107 t34 0 : 0
    refine wpB_take (i := 4) (v := ?_) (get_of_drop rfl) (by kernel_rfl) (by kernel_rfl) (by kernel_rfl) (by kernel_rfl) (fun _ _ _ h => h) (Or.inl ⟨by rfl, ?_⟩) hHeld ?_
    rotate_left
    · (intro w hSw; (try dsimp only at hSw); go_simp <;> with_reducible rfl)
    try simp only [Act.put, List.setIfInBounds_toArray, List.set_cons_zero, List.set_cons_succ]
    -- 5: t36 := load 36 t35 : 36
    refine wpB_take (i := 5) (v := ?_) (get_of_drop rfl) (by kernel_rfl) (by kernel_rfl) (by kernel_rfl) (by kernel_rfl) (fun _ _ _ h => h) (Or.inl ⟨by rfl, ?_⟩) hHeld ?_
    rotate_left
    · (intro w hSw; (try dsimp only at hSw); go_simp <;> with_reducible rfl)
    try simp only [Act.put, List.setIfInBounds_toArray, List.set_cons_zero, List.set_cons_succ]
    -- 6: t37 := move t0 : 105
    refine wpB_take (i := 6) (v := ?_) (get_of_drop rfl) (by kernel_rfl) (by kernel_rfl) (by kernel_rfl) (by kernel_rfl) (fun _ _ _ h => h) (Or.inl ⟨by rfl, ?_⟩) hHeld ?_
    rotate_left
    · (intro w hSw; (try dsimp only at hSw); go_simp <;> with_reducible rfl)
    try simp only [Act.put, List.setIfInBounds_toArray, List.set_cons_zero, List.set_cons_succ]
    -- 7: t38 := nilCheck t37 : 0
    refine wpB_take (i := 7) (v := ?_) (get_of_drop rfl) (by kernel_rfl) (by kernel_rfl) (by kernel_rfl) (by kernel_rfl) (fun _ _ _ h => h) (Or.inl ⟨by rfl, ?_⟩) hHeld ?_
    rotate_left
    · (intro w hSw; (try dsimp only at hSw); go_simp <;> with_reducible rfl)
    try simp only [Act.put, List.setIfInBounds_toArray, List.set_cons_zero, List.set_cons_succ]
    -- 8: t39 := fieldAddr 107 t38 1 : 0
    refine wpB_take (i := 8) (v := ?_) (get_of_drop rfl) (by kernel_rfl) (by kernel_rfl) (by kernel_rfl) (by kernel_rfl) (fun _ _ _ h => h) (Or.inl ⟨by rfl, ?_⟩) hHeld ?_
    rotate_left
    · (intro w hSw; (try dsimp only at hSw); go_simp <;> with_reducible rfl)
    try simp only [Act.put, List.setIfInBounds_toArray, List.set_cons_zero, List.set_cons_succ]
    -- 9: t40 := load 3 t39 : 3
    refine wpB_take (i := 9) (v := ?_) (get_of_drop rfl) (by kernel_rfl) (by kernel_rfl) (by kernel_rfl) (by kernel_rfl) (fun _ _ _ h => h) (Or.inl ⟨by rfl, ?_⟩) hHeld ?_
    rotate_left
    · (intro w hSw; (try dsimp only at hSw); go_simp <;> with_reducible rfl)
    try simp only [Act.put, List.setIfInBounds_toArray, List.set_cons_zero, List.set_cons_succ]
    -- 10: t41 := move t0 : 105
    refine wpB_take (i := 10) (v := ?_) (get_of_drop rfl) (by kernel_rfl) (by kernel_rfl) (by kernel_rfl) (by kernel_rfl) (fun _ _ _ h => h) (Or.inl ⟨by rfl, ?_⟩) hHeld ?_
    rotate_left
    · (intro w hSw; (try dsimp only at hSw); go_simp <;> with_reducible rfl)
    try simp only [Act.put, List.setIfInBounds_toArray, List.set_cons_zero, List.set_cons_succ]
    -- 11: t42 := nilCheck t41 : 0
    refine wpB_take (i := 11) (v := ?_) (get_of_drop rfl) (by kernel_rfl) (by kernel_rfl) (by kernel_rfl) (by kernel_rfl) (fun _ _ _ h => h) (Or.inl ⟨by rfl, ?_⟩) hHeld ?_
    rotate_left
    · (intro w hSw; (try dsimp only at hSw); go_simp <;> with_reducible rfl)
    try simp only [Act.put, List.setIfInBounds_toArray, List.set_cons_zero, List.set_cons_succ]
    -- 12: t43 := fieldAddr 107 t42 1 : 0
    refine wpB_take (i := 12) (v := ?_) (get_of_drop rfl) (by kernel_rfl) (by kernel_rfl) (by kernel_rfl) (by kernel_rfl) (fun _ _ _ h => h) (Or.inl ⟨by rfl, ?_⟩) hHeld ?_
    rotate_left
    · (intro w hSw; (try dsimp only at hSw); go_simp <;> with_reducible rfl)
    try simp only [Act.put, List.setIfInBounds_toArray, List.set_cons_zero, List.set_cons_succ]
    -- 13: t44 := load 3 t43 : 3
    refine wpB_take (i := 13) (v := ?_) (get_of_drop rfl) (by kernel_rfl) (by kernel_rfl) (by kernel_rfl) (by kernel_rfl) (fun _ _ _ h => h) (Or.inl ⟨by rfl, ?_⟩) hHeld ?_
    rotate_left
    · (intro w hSw; (try dsimp only at hSw); go_simp <;> with_reducible rfl)
    try simp only [Act.put, List.setIfInBounds_toArray, List.set_cons_zero, List.set_cons_succ]
    -- 14: t45 := move t4 : 3
    refine wpB_take (i := 14) (v := ?_) (get_of_drop rfl) (by kernel_rfl) (by kernel_rfl) (by kernel_rfl) (by kernel_rfl) (fun _ _ _ h => h) (Or.inl ⟨by rfl, ?_⟩) hHeld ?_
    rotate_left
    · (intro w hSw; (try dsimp only at hSw); go_simp <;> with_reducible rfl)
    try simp only [Act.put, List.setIfInBounds_toArray, List.set_cons_zero, List.set_cons_succ]
    -- 15: t46 := binOp BinOp.add 3 t44 t45 3 : 3
    refine wpB_take (i := 15) (v := ?_) (get_of_drop rfl) (by kernel_rfl) (by kernel_rfl) (by kernel_rfl) (by kernel_rfl) (fun _ _ _ h => h) (Or.inl ⟨by rfl, ?_⟩) hHeld ?_
    rotate_left
    · (intro w hSw; (try dsimp only at hSw); go_simp <;> with_reducible rfl)
    try simp only [Act.put, List.setIfInBounds_toArray, List.set_cons_zero, List.set_cons_succ]
    -- 16: t47 := slice 36 t36 some t40 some t46 none : 36
    refine wpB_take (i := 16) (v := ?_) (get_of_drop rfl) (by kernel_rfl) (by kernel_rfl) (by kernel_rfl) (by kernel_rfl) (fun _ _ _ h => h) (Or.inl ⟨by rfl, ?_⟩) hHeld ?_
    rotate_left
    · (intro w hSw; (try dsimp only at hSw); go_simp <;> with_reducible rfl)
    try simp only [Act.put, List.setIfInBounds_toArray, List.set_cons_zero, List.set_cons_succ]
    -- 17: t48 := convert 36 9 t47 : 9
    refine wpB_take (i := 17) (v := ?_) (get_of_drop rfl) (by kernel_rfl) (by kernel_rfl) (by kernel_rfl) (by kernel_rfl) (fun _ _ _ h => h) (Or.inl ⟨by rfl, ?_⟩) hHeld ?_
    rotate_left
    · (intro w hSw; (try dsimp only at hSw); go_simp <;> with_reducible rfl)
    try simp only [Act.put, List.setIfInBounds_toArray, List.set_cons_zero, List.set_cons_succ]
    -- 18: t49 := move t0 : 105
    refine wpB_take (i := 18) (v := ?_) (get_of_drop rfl) (by kernel_rfl) (by kernel_rfl) (by kernel_rfl) (by kernel_rfl) (fun _ _ _ h => h) (Or.inl ⟨by rfl, ?_⟩) hHeld ?_
    rotate_left
    · (intro w hSw; (try dsimp only at hSw); go_simp <;> with_reducible rfl)
    try simp only [Act.put, List.setIfInBounds_toArray, List.set_cons_zero, List.set_cons_succ]
    -- 19: t50 := nilCheck t49 : 0
    refine wpB_take (i := 19) (v := ?_) (get_of_drop rfl) (by kernel_rfl) (by kernel_rfl) (by kernel_rfl) (by kernel_rfl) (fun _ _ _ h => h) (Or.inl ⟨by rfl, ?_⟩) hHeld ?_
    rotate_left
    · (intro w hSw; (try dsimp only at hSw); go_simp <;> with_reducible rfl)
    try simp only [Act.put, List.setIfInBounds_toArray, List.set_cons_zero, List.set_cons_succ]
    -- 20: t51 := fieldAddr 107 t50 1 : 0
    refine wpB_take (i := 20) (v := ?_) (get_of_drop rfl) (by kernel_rfl) (by kernel_rfl) (by kernel_rfl) (by kernel_rfl) (fun _ _ _ h => h) (Or.inl ⟨by rfl, ?_⟩) hHeld ?_
    rotate_left
    · (intro w hSw; (try dsimp only at hSw); go_simp <;> with_reducible rfl)
    try simp only [Act.put, List.setIfInBounds_toArray, List.set_cons_zero, List.set_cons_succ]
    -- 21: t52 := load 3 t51 : 3
    refine wpB_take (i := 21) (v := ?_) (get_of_drop rfl) (by kernel_rfl) (by kernel_rfl) (by kernel_rfl) (by kernel_rfl) (fun _ _ _ h => h) (Or.inl ⟨by rfl, ?_⟩) hHeld ?_
    rotate_left
    · (intro w hSw; (try dsimp only at hSw); go_simp <;> with_reducible rfl)
    try simp only [Act.put, List.setIfInBounds_toArray, List.set_cons_zero, List.set_cons_succ]
    -- 22: t53 := move t4 : 3
    refine wpB_take (i := 22) (v := ?_) (get_of_drop rfl) (by kernel_rfl) (by kernel_rfl) (by kernel_rfl) (by kernel_rfl) (fun _ _ _ h => h) (Or.inl ⟨by rfl, ?_⟩) hHeld ?_
    rotate_left
    · (intro w hSw; (try dsimp only at hSw); go_simp <;> with_reducible rfl)
    try simp only [Act.put, List.setIfInBounds_toArray, List.set_cons_zero, List.set_cons_succ]
    -- 23: t54 := binOp BinOp.add 3 t52 t53 3 : 3
    refine wpB_take (i := 23) (v := ?_) (get_of_drop rfl) (by kernel_rfl) (by kernel_rfl) (by kernel_rfl) (by kernel_rfl) (fun _ _ _ h => h) (Or.inl ⟨by rfl, ?_⟩) hHeld ?_
    rotate_left
    · (intro w hSw; (try dsimp only at hSw); go_simp <;> with_reducible rfl)
    try simp only [Act.put, List.setIfInBounds_toArray, List.set_cons_zero, List.set_cons_succ]
    -- 24: t55 := nilCheck t31 : 0
    refine wpB_take (i := 24) (v := ?_) (get_of_drop rfl) (by kernel_rfl) (by kernel_rfl) (by kernel_rfl) (by kernel_rfl) (fun _ _ _ h => h) (Or.inl ⟨by rfl, ?_⟩) hHeld ?_
    rotate_left
    · (intro w hSw; (try dsimp only at hSw); go_simp <;> with_reducible rfl)
    try simp only [Act.put, List.setIfInBounds_toArray, List.set_cons_zero, List.set_cons_succ]
    -- 25: t- := store 9 t55 t48 : 0
    refine wpB_act (i := 25) (by kernel_rfl) (get_of_drop rfl) (fun K hK => ?_)
    go_simp
    refine hK.out _ _ ?_ (fun hHeld2 => ?_)
    · (first | assumption | exact hHeld.set (fun _ => rfl) _)
    clear hHeld hK K
    have hHeld := hHeld2
    clear hHeld2
    try simp only [Act.put, List.setIfInBounds_toArray, List.set_cons_zero, List.set_cons_succ]
    -- 26: t56 := nilCheck t32 : 0
    refine wpB_take (i := 26) (v := ?_) (get_of_drop rfl) (by kernel_rfl) (by kernel_rfl) (by kernel_rfl) (by kernel_rfl) (fun _ _ _ h => h) (Or.inl ⟨by rfl, ?_⟩) hHeld ?_
    rotate_left
    · (intro w hSw; (try dsimp only at hSw); go_simp <;> with_reducible rfl)
    try simp only [Act.put, List.setIfInBounds_toArray, List.set_cons_zero, List.set_cons_succ]
    -- 27: t57 := fieldAddr 107 t56 1 : 0
    refine wpB_take (i := 27) (v := ?_) (get_of_drop rfl) (by kernel_rfl) (by kernel_rfl) (by kernel_rfl) (by kernel_rfl) (fun _ _ _ h => h) (Or.inl ⟨by rfl, ?_⟩) hHeld ?_
    rotate_left
    · (intro w hSw; (try dsimp only at hSw); go_simp <;> with_reducible rfl)
    try simp only [Act.put, List.setIfInBounds_toArray, List.set_cons_zero, List.set_cons_succ]
    -- 28: t- := store 3 t57 t54 : 0 (BARRIER)
    refine wpB_bar (i := 28) (by kernel_rfl) (get_of_drop rfl) (by kernel_rfl) (fun K hK => ?_)
    go_simp
    refine hK.out _ _ (fun _ : World => True) ?_
    clear hHeld hK K
    have hHeld := trivial
    try simp only [Act.put, List.setIfInBounds_toArray, List.set_cons_zero, List.set_cons_succ]
    refine wpB_done (by kernel_rfl) ?_ _
    clear hHeld hM hc0 hc1 f1 fp cp hcut
    go_end0
    refine ⟨rfl, bstr ((b.drop at').take q), ?_, ?_⟩
    · rw [bstr_size, List.length_take]
      exact Nat.le_trans (Nat.min_le_left _ _) (by simp [maxLen]; omega)
    · have q1 := text_end HRD.out HP1.out hus hpB hpg hqle (bstr ((b.drop at').take q))
      refine ⟨q1.1, (HC.out.mono (fun _ h _ => .inl h)).trans q1.2.1 (fun _ h _ => h), at' + q, false, q1.2.2, ?_⟩
      rw [rdText_of HE.out, left_some, left_some, Option.map_some, Option.map_some, List.drop_drop, bts_bstr]
end Go.Proofs.Ytfpjickdkkhndaa.Pa


/- The contracts of the codec's rule, and of the closure that reads or writes one number. -/

namespace Go.Proofs.Ytfpjickdkkhndaa.Pa

set_option linter.unusedVariables false

set_option linter.unusedSimpArgs false

open Go.RowKit Go.Proofs.Ytfpjickdkkhndaa.C

attribute [local go_sem] max2_int min2_int max_two min_two

/-- One reader behind another. -/
def thenRd {α β γ : Type} (rd1 : List UInt8 → Option (α × List UInt8)) (rd2 : List UInt8 → Option (β × List UInt8)) (f : α → β → γ) (s : List UInt8) : Option (γ × List UInt8) := (rd1 s).bind fun q => (rd2 q.2).map fun t => (f q.1 t.1, t.2)
theorem thenRd_eq {α β γ : Type} {rd1 : List UInt8 → Option (α × List UInt8)} {rd2 : List UInt8 → Option (β × List UInt8)} (f : α → β → γ) {X Y Z : Option (List UInt8)} {x : α} {y : β} (h1 : X.bind rd1 = Y.map fun r => (x, r)) (h2 : Y.bind rd2 = Z.map fun r => (y, r)) : X.bind (thenRd rd1 rd2 f) = Z.map fun r => (f x y, r) := by
  have e : X.bind (thenRd rd1 rd2 f) = (X.bind rd1).bind fun q => (rd2 q.2).map fun t => (f q.1 t.1, t.2) := by cases X <;> rfl
  rw [e, h1]
  cases Y with
  | none =>
    cases Z with
    | none => rfl
    | some z => simp at h2
  | some r =>
    rw [Option.bind_some] at h2
    rw [Option.map_some, Option.bind_some, h2]
    cases Z <;> rfl

/-- A rule's numbers. -/
def Rule.nums (r : Rule) : List Int := [r.id, r.pri, r.act, r.scope]
def mkRule : List Int → List UInt8 → Rule
  | [a, b, c, d], t => ⟨a, b, c, d, bstr t⟩
  | _, t => ⟨0, 0, 0, 0, bstr t⟩
def rdRule : List UInt8 → Option (Rule × List UInt8) := thenRd (rdList rdNum 4) rdText mkRule
def ruleCells (r : Rule) : List Value := ints r.nums ++ [.string r.pat]
/-- What a rule may be that is written. -/
def RuleOk (r : Rule) : Prop := (∀ u ∈ r.nums, NumOk u) ∧ r.pat.size ≤ 1000
theorem ruleB_eq (r : Rule) : ruleB r = r.nums.flatMap num ++ num r.pat.size ++ bts r.pat := by
  simp [ruleB, Rule.nums]
theorem ruleB_len (r : Rule) : (ruleB r).length = 30 + r.pat.size := by
  simp only [ruleB, List.length_append, num_len, bts_length]

theorem lit_sees (W : World) (cs : Array Value) (e : TypeId) : Sees (W.alloc (.cells cs e)).drew (fun k => k = W.heap.size) (some ⟨W.heap.size, 0, none⟩) cs.toList := (new_sees W cs e).chg ((Chg.refl (fun _ => False) _).drew) (fun _ _ h => h)
set_option maxHeartbeats 4000000 in
set_option maxRecDepth 100000 in
theorem rule_w {w : World} {S : Nat → Prop} {g p tp : Nat} {v : Value} {x : List UInt8} {r : Rule} (h : Wr w S g v x) (hp : w.heap[p]? = some (.cells (ruleCells r).toArray tp (0, 0))) (hpS : ¬ S p) (hok : RuleOk r) (hx : x.length ≤ 800000000) :
    Calls Try.prog 86 #[.pointer (some ⟨g, 0, none⟩), .pointer (some ⟨p, 0, none⟩)] w fun e w' => e = .returned (.tuple #[]) ∧ WrTo S g (x ++ ruleB r) w w' := by
  have HB := hid h.bound
  have HP := hid hp
  have HPL := hid (lt_of_blk hp)
  have HOK := hid hok
  clear h hp hok
  go_enter Try.func86, Try.ntmps86
  go_wp2_with fail
  refine wpB_start (fun _ : World => True) (by kernel_rfl) ?_
  have hHeld := trivial
  -- 0: t4 := move t0 : 105
  refine wpB_take (i := 0) (v := ?_) (get_of_drop rfl) (by kernel_rfl) (by kernel_rfl) (by kernel_rfl) (by kernel_rfl) (fun _ _ _ h => h) (Or.inl ⟨by rfl, ?_⟩) hHeld ?_
  rotate_left
  · (intro w hSw; (try dsimp only at hSw); go_simp <;> with_reducible rfl)
  try simp only [Act.put, List.setIfInBounds_toArray, List.set_cons_zero, List.set_cons_succ]
  -- 1: t5 := move t1 : 150
  refine wpB_take (i := 1) (v := ?_) (get_of_drop rfl) (by kernel_rfl) (by kernel_rfl) (by kernel_rfl) (by kernel_rfl) (fun _ _ _ h => h) (Or.inl ⟨by rfl, ?_⟩) hHeld ?_
  rotate_left
  · (intro w hSw; (try dsimp only at hSw); go_simp <;> with_reducible rfl)
  try simp only [Act.put, List.setIfInBounds_toArray, List.set_cons_zero, List.set_cons_succ]
  -- 2: t6 := nilCheck t5 : 0
  refine wpB_take (i := 2) (v := ?_) (get_of_drop rfl) (by kernel_rfl) (by kernel_rfl) (by kernel_rfl) (by kernel_rfl) (fun _ _ _ h => h) (Or.inl ⟨by rfl, ?_⟩) hHeld ?_
  rotate_left
  · (intro w hSw; (try dsimp only at hSw); go_simp <;> with_reducible rfl)
  try simp only [Act.put, List.setIfInBounds_toArray, List.set_cons_zero, List.set_cons_succ]
  -- 3: t7 := fieldAddr 54 t6 0 : 0
  refine wpB_take (i := 3) (v := ?_) (get_of_drop rfl) (by kernel_rfl) (by kernel_rfl) (by kernel_rfl) (by kernel_rfl) (fun _ _ _ h => h) (Or.inl ⟨by rfl, ?_⟩) hHeld ?_
  rotate_left
  · (intro w hSw; (try dsimp only at hSw); go_simp <;> with_reducible rfl)
  try simp only [Act.put, List.setIfInBounds_toArray, List.set_cons_zero, List.set_cons_succ]
  -- 4: t8 := move t1 : 150
  refine wpB_take (i := 4) (v := ?_) (get_of_drop rfl) (by kernel_rfl) (by kernel_rfl) (by kernel_rfl) (by kernel_rfl) (fun _ _ _ h => h) (Or.inl ⟨by rfl, ?_⟩) hHeld ?_
  rotate_left
  · (intro w hSw; (try dsimp only at hSw); go_simp <;> with_reducible rfl)
  try simp only [Act.put, List.setIfInBounds_toArray, List.set_cons_zero, List.set_cons_succ]
  -- 5: t9 := nilCheck t8 : 0
  refine wpB_take (i := 5) (v := ?_) (get_of_drop rfl) (by kernel_rfl) (by kernel_rfl) (by kernel_rfl) (by kernel_rfl) (fun _ _ _ h => h) (Or.inl ⟨by rfl, ?_⟩) hHeld ?_
  rotate_left
  · (intro w hSw; (try dsimp only at hSw); go_simp <;> with_reducible rfl)
  try simp only [Act.put, List.setIfInBounds_toArray, List.set_cons_zero, List.set_cons_succ]
  -- 6: t10 := fieldAddr 54 t9 1 : 0
  refine wpB_take (i := 6) (v := ?_) (get_of_drop rfl) (by kernel_rfl) (by kernel_rfl) (by kernel_rfl) (by kernel_rfl) (fun _ _ _ h => h) (Or.inl ⟨by rfl, ?_⟩) hHeld ?_
  rotate_left
  · (intro w hSw; (try dsimp only at hSw); go_simp <;> with_reducible rfl)
  try simp only [Act.put, List.setIfInBounds_toArray, List.set_cons_zero, List.set_cons_succ]
  -- 7: t11 := move t1 : 150
  refine wpB_take (i := 7) (v := ?_) (get_of_drop rfl) (by kernel_rfl) (by kernel_rfl) (by kernel_rfl) (by kernel_rfl) (fun _ _ _ h => h) (Or.inl ⟨by rfl, ?_⟩) hHeld ?_
  rotate_left
  · (intro w hSw; (try dsimp only at hSw); go_simp <;> with_reducible rfl)
  try simp only [Act.put, List.setIfInBounds_toArray, List.set_cons_zero, List.set_cons_succ]
  -- 8: t12 := nilCheck t11 : 0
  refine wpB_take (i := 8) (v := ?_) (get_of_drop rfl) (by kernel_rfl) (by kernel_rfl) (by kernel_rfl) (by kernel_rfl) (fun _ _ _ h => h) (Or.inl ⟨by rfl, ?_⟩) hHeld ?_
  rotate_left
  · (intro w hSw; (try dsimp only at hSw); go_simp <;> with_reducible rfl)
  try simp only [Act.put, List.setIfInBounds_toArray, List.set_cons_zero, List.set_cons_succ]
  -- 9: t13 := fieldAddr 54 t12 2 : 0
  refine wpB_take (i := 9) (v := ?_) (get_of_drop rfl) (by kernel_rfl) (by kernel_rfl) (by kernel_rfl) (by kernel_rfl) (fun _ _ _ h => h) (Or.inl ⟨by rfl, ?_⟩) hHeld ?_
  rotate_left
  · (intro w hSw; (try dsimp only at hSw); go_simp <;> with_reducible rfl)
  try simp only [Act.put, List.setIfInBounds_toArray, List.set_cons_zero, List.set_cons_succ]
  -- 10: t14 := move t1 : 150
  refine wpB_take (i := 10) (v := ?_) (get_of_drop rfl) (by kernel_rfl) (by kernel_rfl) (by kernel_rfl) (by kernel_rfl) (fun _ _ _ h => h) (Or.inl ⟨by rfl, ?_⟩) hHeld ?_
  rotate_left
  · (intro w hSw; (try dsimp only at hSw); go_simp <;> with_reducible rfl)
  try simp only [Act.put, List.setIfInBounds_toArray, List.set_cons_zero, List.set_cons_succ]
  -- 11: t15 := nilCheck t14 : 0
  refine wpB_take (i := 11) (v := ?_) (get_of_drop rfl) (by kernel_rfl) (by kernel_rfl) (by kernel_rfl) (by kernel_rfl) (fun _ _ _ h => h) (Or.inl ⟨by rfl, ?_⟩) hHeld ?_
  rotate_left
  · (intro w hSw; (try dsimp only at hSw); go_simp <;> with_reducible rfl)
  try simp only [Act.put, List.setIfInBounds_toArray, List.set_cons_zero, List.set_cons_succ]
  -- 12: t16 := fieldAddr 54 t15 3 : 0
  refine wpB_take (i := 12) (v := ?_) (get_of_drop rfl) (by kernel_rfl) (by kernel_rfl) (by kernel_rfl) (by kernel_rfl) (fun _ _ _ h => h) (Or.inl ⟨by rfl, ?_⟩) hHeld ?_
  rotate_left
  · (intro w hSw; (try dsimp only at hSw); go_simp <;> with_reducible rfl)
  try simp only [Act.put, List.setIfInBounds_toArray, List.set_cons_zero, List.set_cons_succ]
  -- 13: t17 := buildSlice 138 4 [⟨0, t7⟩, ⟨1, t10⟩, ⟨2, t13⟩, ⟨3, t16⟩] : 138
  refine wpB_act (i := 13) (by kernel_rfl) (get_of_drop rfl) (fun K hK => ?_)
  go_simp
  refine hK.out _ _ ?_ (fun hHeld2 => ?_)
  · exact trivial
  clear hHeld hK K
  have hHeld := hHeld2
  clear hHeld2
  try simp only [Act.put, List.setIfInBounds_toArray, List.set_cons_zero, List.set_cons_succ]
  -- 14: t18 := CALL fn75(t4, t17) : 0
  refine wpB_act (i := 14) (by kernel_rfl) (get_of_drop rfl) (fun K hK => ?_)
  go_simp
  have CC := hid (show Chg (fun _ => False) w (w.alloc (.cells (ptrs p 4).toArray 130)).drew from ((Chg.refl _ w).alloc _).drew)
  refine (num_w (vs := r.nums) (p := p) (R := fun k => k = w.heap.size) (HB.out.chg CC.out (fun _ _ h => h)) (lit_sees w (ptrs p 4).toArray 130) (fun k hk hs => by have := hs.2; omega) (fun i u hi => by
    rw [cellAt (CC.out.blk HP.out (fun h => h))]
    exact ints_at hi _) (fun hs => hpS hs.1) (fun u hu => HOK.out.1 u hu) (by omega) (by show 4 ≤ 7; omega)).mono ?_
  rintro e w1 ⟨rfl, h1⟩
  have HT := hid (WrTo.pre (S := S) CC.out h1 (fun k hk => .inl hk.1))
  have HP1 := hid (show w1.heap[p]? = _ from (by obtain ⟨v1, _, hc⟩ := h1; exact hc.blk (CC.out.blk HP.out (fun h => h)) (fun hs => hpS hs.1)))
  clear h1
  refine hK.out _ _ ?_ (fun hHeld2 => ?_)
  · exact trivial
  clear hHeld hK K
  have hHeld := hHeld2
  clear hHeld2
  try simp only [Act.put, List.setIfInBounds_toArray, List.set_cons_zero, List.set_cons_succ]
  refine wpB_done (by kernel_rfl) ?_ _
  clear hHeld
  have HV := HT.out
  obtain ⟨v1, hv1, hc1⟩ := HV
  have H1 := hid hv1.bound
  clear hv1
  go_wp2_with fail
  refine (text_w (s := r.pat) H1.out (by rw [cellAt HP1.out]; rfl) (fun hs => by have := HPL.out; rcases hs.1 with h | h; exact hpS h; omega) (by have := HOK.out.2; omega) (by rw [List.length_append, flatMap_num_len]; show _ + 6 * 4 ≤ _; omega)).mono ?_
  rintro e w2 ⟨rfl, h2⟩
  have HF := hid (HT.out.trans (WrTo.pre (Chg.refl _ _) h2 (fun k hk => .inl hk.1)))
  clear h2
  go_wp2_with fail
  go_end0
  refine ⟨rfl, ?_⟩
  rw [ruleB_eq, ← List.append_assoc, ← List.append_assoc]
  exact HF.out

def RuleWf (r : Rule) : Prop := (∀ u ∈ r.nums, (Lit.int .i64 u).wf = true) ∧ r.pat.size ≤ maxLen
/-- A rule was read into a block. -/
def RuleTo (w : World) (B g : Nat) (A : Option Addr) (n c : Nat) (b : List UInt8) (at_ : Nat) (bad : Bool) (p tp : Nat) (w' : World) : Prop :=
  ∃ r : Rule, RuleWf r ∧ w'.heap[p]? = some (.cells (ruleCells r).toArray tp (0, 0)) ∧ Chg (fun j => j = g ∨ j = p) w w' ∧ RdTo B g A n c b at_ bad rdRule w' r

set_option maxHeartbeats 4000000 in
set_option maxRecDepth 100000 in
theorem rule_r {w : World} {B g p tp : Nat} {A : Option Addr} {n c : Nat} {b : List UInt8} {at_ : Nat} {bad : Bool} {r : Rule} (h : Rd w B g A n c b at_ bad) (hp : w.heap[p]? = some (.cells (ruleCells r).toArray tp (0, 0))) (hpB : B ≤ p) (hpg : p ≠ g) (hwf : RuleWf r) (hn : n ≤ 1000000000) :
    Calls Try.prog 86 #[.pointer (some ⟨g, 0, none⟩), .pointer (some ⟨p, 0, none⟩)] w fun e w' => e = .returned (.tuple #[]) ∧ RuleTo w B g A n c b at_ bad p tp w' := by
  have H := hid h
  have HP := hid hp
  have HPL := hid (lt_of_blk hp)
  have HGL := hid h.lt
  have HWF := hid hwf
  clear h hp hwf
  go_enter Try.func86, Try.ntmps86
  go_wp2_with fail
  refine wpB_start (fun _ : World => True) (by kernel_rfl) ?_
  have hHeld := trivial
  -- 0: t4 := move t0 : 105
  refine wpB_take (i := 0) (v := ?_) (get_of_drop rfl) (by kernel_rfl) (by kernel_rfl) (by kernel_rfl) (by kernel_rfl) (fun _ _ _ h => h) (Or.inl ⟨by rfl, ?_⟩) hHeld ?_
  rotate_left
  · (intro w hSw; (try dsimp only at hSw); go_simp <;> with_reducible rfl)
  try simp only [Act.put, List.setIfInBounds_toArray, List.set_cons_zero, List.set_cons_succ]
  -- 1: t5 := move t1 : 150
  refine wpB_take (i := 1) (v := ?_) (get_of_drop rfl) (by kernel_rfl) (by kernel_rfl) (by kernel_rfl) (by kernel_rfl) (fun _ _ _ h => h) (Or.inl ⟨by rfl, ?_⟩) hHeld ?_
  rotate_left
  · (intro w hSw; (try dsimp only at hSw); go_simp <;> with_reducible rfl)
  try simp only [Act.put, List.setIfInBounds_toArray, List.set_cons_zero, List.set_cons_succ]
  -- 2: t6 := nilCheck t5 : 0
  refine wpB_take (i := 2) (v := ?_) (get_of_drop rfl) (by kernel_rfl) (by kernel_rfl) (by kernel_rfl) (by kernel_rfl) (fun _ _ _ h => h) (Or.inl ⟨by rfl, ?_⟩) hHeld ?_
  rotate_left
  · (intro w hSw; (try dsimp only at hSw); go_simp <;> with_reducible rfl)
  try simp only [Act.put, List.setIfInBounds_toArray, List.set_cons_zero, List.set_cons_succ]
  -- 3: t7 := fieldAddr 54 t6 0 : 0
  refine wpB_take (i := 3) (v := ?_) (get_of_drop rfl) (by kernel_rfl) (by kernel_rfl) (by kernel_rfl) (by kernel_rfl) (fun _ _ _ h => h) (Or.inl ⟨by rfl, ?_⟩) hHeld ?_
  rotate_left
  · (intro w hSw; (try dsimp only at hSw); go_simp <;> with_reducible rfl)
  try simp only [Act.put, List.setIfInBounds_toArray, List.set_cons_zero, List.set_cons_succ]
  -- 4: t8 := move t1 : 150
  refine wpB_take (i := 4) (v := ?_) (get_of_drop rfl) (by kernel_rfl) (by kernel_rfl) (by kernel_rfl) (by kernel_rfl) (fun _ _ _ h => h) (Or.inl ⟨by rfl, ?_⟩) hHeld ?_
  rotate_left
  · (intro w hSw; (try dsimp only at hSw); go_simp <;> with_reducible rfl)
  try simp only [Act.put, List.setIfInBounds_toArray, List.set_cons_zero, List.set_cons_succ]
  -- 5: t9 := nilCheck t8 : 0
  refine wpB_take (i := 5) (v := ?_) (get_of_drop rfl) (by kernel_rfl) (by kernel_rfl) (by kernel_rfl) (by kernel_rfl) (fun _ _ _ h => h) (Or.inl ⟨by rfl, ?_⟩) hHeld ?_
  rotate_left
  · (intro w hSw; (try dsimp only at hSw); go_simp <;> with_reducible rfl)
  try simp only [Act.put, List.setIfInBounds_toArray, List.set_cons_zero, List.set_cons_succ]
  -- 6: t10 := fieldAddr 54 t9 1 : 0
  refine wpB_take (i := 6) (v := ?_) (get_of_drop rfl) (by kernel_rfl) (by kernel_rfl) (by kernel_rfl) (by kernel_rfl) (fun _ _ _ h => h) (Or.inl ⟨by rfl, ?_⟩) hHeld ?_
  rotate_left
  · (intro w hSw; (try dsimp only at hSw); go_simp <;> with_reducible rfl)
  try simp only [Act.put, List.setIfInBounds_toArray, List.set_cons_zero, List.set_cons_succ]
  -- 7: t11 := move t1 : 150
  refine wpB_take (i := 7) (v := ?_) (get_of_drop rfl) (by kernel_rfl) (by kernel_rfl) (by kernel_rfl) (by kernel_rfl) (fun _ _ _ h => h) (Or.inl ⟨by rfl, ?_⟩) hHeld ?_
  rotate_left
  · (intro w hSw; (try dsimp only at hSw); go_simp <;> with_reducible rfl)
  try simp only [Act.put, List.setIfInBounds_toArray, List.set_cons_zero, List.set_cons_succ]
  -- 8: t12 := nilCheck t11 : 0
  refine wpB_take (i := 8) (v := ?_) (get_of_drop rfl) (by kernel_rfl) (by kernel_rfl) (by kernel_rfl) (by kernel_rfl) (fun _ _ _ h => h) (Or.inl ⟨by rfl, ?_⟩) hHeld ?_
  rotate_left
  · (intro w hSw; (try dsimp only at hSw); go_simp <;> with_reducible rfl)
  try simp only [Act.put, List.setIfInBounds_toArray, List.set_cons_zero, List.set_cons_succ]
  -- 9: t13 := fieldAddr 54 t12 2 : 0
  refine wpB_take (i := 9) (v := ?_) (get_of_drop rfl) (by kernel_rfl) (by kernel_rfl) (by kernel_rfl) (by kernel_rfl) (fun _ _ _ h => h) (Or.inl ⟨by rfl, ?_⟩) hHeld ?_
  rotate_left
  · (intro w hSw; (try dsimp only at hSw); go_simp <;> with_reducible rfl)
  try simp only [Act.put, List.setIfInBounds_toArray, List.set_cons_zero, List.set_cons_succ]
  -- 10: t14 := move t1 : 150
  refine wpB_take (i := 10) (v := ?_) (get_of_drop rfl) (by kernel_rfl) (by kernel_rfl) (by kernel_rfl) (by kernel_rfl) (fun _ _ _ h => h) (Or.inl ⟨by rfl, ?_⟩) hHeld ?_
  rotate_left
  · (intro w hSw; (try dsimp only at hSw); go_simp <;> with_reducible rfl)
  try simp only [Act.put, List.setIfInBounds_toArray, List.set_cons_zero, List.set_cons_succ]
  -- 11: t15 := nilCheck t14 : 0
  refine wpB_take (i := 11) (v := ?_) (get_of_drop rfl) (by kernel_rfl) (by kernel_rfl) (by kernel_rfl) (by kernel_rfl) (fun _ _ _ h => h) (Or.inl ⟨by rfl, ?_⟩) hHeld ?_
  rotate_left
  · (intro w hSw; (try dsimp only at hSw); go_simp <;> with_reducible rfl)
  try simp only [Act.put, List.setIfInBounds_toArray, List.set_cons_zero, List.set_cons_succ]
  -- 12: t16 := fieldAddr 54 t15 3 : 0
  refine wpB_take (i := 12) (v := ?_) (get_of_drop rfl) (by kernel_rfl) (by kernel_rfl) (by kernel_rfl) (by kernel_rfl) (fun _ _ _ h => h) (Or.inl ⟨by rfl, ?_⟩) hHeld ?_
  rotate_left
  · (intro w hSw; (try dsimp only at hSw); go_simp <;> with_reducible rfl)
  try simp only [Act.put, List.setIfInBounds_toArray, List.set_cons_zero, List.set_cons_succ]
  -- 13: t17 := buildSlice 138 4 [⟨0, t7⟩, ⟨1, t10⟩, ⟨2, t13⟩, ⟨3, t16⟩] : 138
  refine wpB_act (i := 13) (by kernel_rfl) (get_of_drop rfl) (fun K hK => ?_)
  go_simp
  refine hK.out _ _ ?_ (fun hHeld2 => ?_)
  · exact trivial
  clear hHeld hK K
  have hHeld := hHeld2
  clear hHeld2
  try simp only [Act.put, List.setIfInBounds_toArray, List.set_cons_zero, List.set_cons_succ]
  -- 14: t18 := CALL fn75(t4, t17) : 0
  refine wpB_act (i := 14) (by kernel_rfl) (get_of_drop rfl) (fun K hK => ?_)
  go_simp
  have CC := hid (show Chg (fun _ => False) w (w.alloc (.cells (ptrs p 4).toArray 130)).drew from ((Chg.refl _ w).alloc _).drew)
  refine (num_r (vs := r.nums) (r := [.string r.pat]) (p := p) (tp := tp) (R := fun k => k = w.heap.size) (H.out.chg CC.out (fun _ h => h.elim) (fun h => h)) (lit_sees w (ptrs p 4).toArray 130) (fun k hk => by have := HPL.out; have := HGL.out; omega) (CC.out.blk HP.out (fun h => h)) hpB hpg HWF.out.1 hn (by show 4 ≤ 7; omega)).mono ?_
  rintro e w1 ⟨rfl, us, hus, hw, hblk, hchg, at', bad', hrd, heq⟩
  have HT := hid (And.intro hus (And.intro hw (And.intro hblk (And.intro ((CC.out.mono (S' := fun j => j = g ∨ j = p) (fun _ h _ => h.elim)).trans hchg (fun _ h _ => h)) (And.intro hrd heq)))))
  clear hus hw hblk hchg hrd heq
  refine hK.out _ _ ?_ (fun hHeld2 => ?_)
  · exact trivial
  clear hHeld hK K
  have hHeld := hHeld2
  clear hHeld2
  try simp only [Act.put, List.setIfInBounds_toArray, List.set_cons_zero, List.set_cons_succ]
  refine wpB_done (by kernel_rfl) ?_ _
  clear hHeld
  obtain ⟨q1, q2, q3, q4, q5, q6⟩ := HT.out
  have Q3 := hid q3
  have Q5 := hid q5
  have Q1 := hid (show us.length = 4 from q1)
  clear q1 q2 q3 q4 q5 q6
  go_wp2_with fail
  refine (text_r (us := us) (s := r.pat) Q5.out Q3.out Q1.out hpB hpg HWF.out.2 hn).mono ?_
  rintro e w2 ⟨rfl, s, h1, h2, h3, at2, bad2, h4, h5⟩
  have H1 := hid h1
  have H2 := hid h2
  have H3 := hid h3
  have H4 := hid h4
  have H5 := hid h5
  clear h1 h2 h3 h4 h5
  go_wp2_with fail
  go_end0
  obtain ⟨q1, q2, q3, q4, q5, q6⟩ := HT.out
  obtain ⟨u0, u1, u2, u3, rfl⟩ : ∃ u0 u1 u2 u3, us = [u0, u1, u2, u3] := by
    match us, Q1.out with
    | [a, b, c, d], _ => exact ⟨a, b, c, d, rfl⟩
  exact ⟨rfl, mkRule [u0, u1, u2, u3] (bts s), ⟨q2, H1.out⟩, H2.out, q4.trans H3.out (fun _ h _ => h), at2, bad2, H4.out, thenRd_eq mkRule q6 H5.out⟩

/-! ### One number, by the closure -/

set_option maxHeartbeats 4000000 in
set_option maxRecDepth 100000 in
theorem one_w {w : World} {S : Nat → Prop} {g p bx tp : Nat} {v : Value} {x : List UInt8} {u : Int} (h : Wr w S g v x) (hp : w.heap[p]? = some (.cells #[.int .i64 u] tp (0, 0))) (hpS : ¬ S p) (hb : w.cell? ⟨bx, 0, none⟩ = some (.pointer (some ⟨g, 0, none⟩))) (hok : NumOk u) (hx : x.length ≤ 800000000) :
    Calls Try.prog 88 #[.pointer (some ⟨p, 0, none⟩), .pointer (some ⟨bx, 0, none⟩)] w fun e w' => e = .returned (.tuple #[]) ∧ WrTo S g (x ++ num u) w w' := by
  have HB := hid h.bound
  have HP := hid hp
  have HPL := hid (lt_of_blk hp)
  have HOK := hid hok
  clear h hp hok
  go_enter Try.func88, Try.ntmps88
  go_wp2_with fail
  have CC := hid (show Chg (fun _ => False) w (w.alloc (.cells (ptrs p 1).toArray 130)) from (Chg.refl _ w).alloc _)
  refine (num_w (vs := [u]) (p := p) (R := fun k => k = w.heap.size) (HB.out.chg CC.out (fun _ _ h => h)) (new_sees w (ptrs p 1).toArray 130) (fun k hk hs => by have := hs.2; omega) (fun i y hi => by
    rw [cellAt (CC.out.blk HP.out (fun h => h))]
    cases i with
    | zero => simp at hi; subst hi; rfl
    | succ i => simp at hi) (fun hs => hpS hs.1) (fun y hy => by rw [List.mem_singleton.1 hy]; exact HOK.out) (by omega) (by simp)).mono ?_
  rintro e w1 ⟨rfl, h1⟩
  rw [List.flatMap_singleton] at h1
  have HT := hid (WrTo.pre (S := S) CC.out h1 (fun k hk => .inl hk.1))
  clear h1
  go_wp2_with fail
  go_end0
  exact ⟨rfl, HT.out⟩

/-- A number was read into a block. -/
def OneTo (w : World) (B g : Nat) (A : Option Addr) (n c : Nat) (b : List UInt8) (at_ : Nat) (bad : Bool) (p tp : Nat) (w' : World) : Prop :=
  ∃ u : Int, (Lit.int .i64 u).wf = true ∧ w'.heap[p]? = some (.cells #[.int .i64 u] tp (0, 0)) ∧ Chg (fun j => j = g ∨ j = p) w w' ∧ RdTo B g A n c b at_ bad rdNum w' u
theorem rdOne_of {X Y : Option (List UInt8)} {u : Int} (h : X.bind (rdList rdNum 1) = Y.map fun r => ([u], r)) : X.bind rdNum = Y.map fun r => (u, r) := by
  have e := rdList_succ rdNum 0
  cases X with
  | none => cases Y with
    | none => rfl
    | some y => simp at h
  | some xb =>
    rw [Option.bind_some, e] at h
    rw [Option.bind_some]
    cases hr : rdNum xb with
    | none =>
      rw [hr] at h
      cases Y with
      | none => rfl
      | some y => simp at h
    | some r =>
      rw [hr] at h
      cases Y with
      | none => simp [rdList] at h
      | some y =>
        simp [rdList] at h
        obtain ⟨h1, h2⟩ := h
        subst h1 h2
        rfl

set_option maxHeartbeats 4000000 in
set_option maxRecDepth 100000 in
theorem one_r {w : World} {B g p bx tp : Nat} {A : Option Addr} {n c : Nat} {b : List UInt8} {at_ : Nat} {bad : Bool} {u : Int} (h : Rd w B g A n c b at_ bad) (hp : w.heap[p]? = some (.cells #[.int .i64 u] tp (0, 0))) (hpB : B ≤ p) (hpg : p ≠ g) (hb : w.cell? ⟨bx, 0, none⟩ = some (.pointer (some ⟨g, 0, none⟩))) (hwf : (Lit.int .i64 u).wf = true) (hn : n ≤ 1000000000) :
    Calls Try.prog 88 #[.pointer (some ⟨p, 0, none⟩), .pointer (some ⟨bx, 0, none⟩)] w fun e w' => e = .returned (.tuple #[]) ∧ OneTo w B g A n c b at_ bad p tp w' := by
  have H := hid h
  have HP := hid hp
  have HPL := hid (lt_of_blk hp)
  have HGL := hid h.lt
  have HWF := hid hwf
  clear h hp hwf
  go_enter Try.func88, Try.ntmps88
  go_wp2_with fail
  have CC := hid (show Chg (fun _ => False) w (w.alloc (.cells (ptrs p 1).toArray 130)) from (Chg.refl _ w).alloc _)
  refine (num_r (vs := [u]) (r := []) (p := p) (tp := tp) (R := fun k => k = w.heap.size) (H.out.chg CC.out (fun _ h => h.elim) (fun h => h)) (new_sees w (ptrs p 1).toArray 130) (fun k hk => by have := HPL.out; have := HGL.out; omega) (CC.out.blk HP.out (fun h => h)) hpB hpg (fun y hy => by rw [List.mem_singleton.1 hy]; exact HWF.out) hn (by simp)).mono ?_
  rintro e w1 ⟨rfl, us, hus, hw, hblk, hchg, at', bad', hrd, heq⟩
  obtain ⟨y, rfl⟩ : ∃ y, us = [y] := by
    match us, hus with
    | [y], _ => exact ⟨y, rfl⟩
  have HT := hid (show OneTo w B g A n c b at_ bad p tp w1 from ⟨y, hw y (List.mem_singleton.2 rfl), hblk, (CC.out.mono (S' := fun j => j = g ∨ j = p) (fun _ h _ => h.elim)).trans hchg (fun _ h _ => h), at', bad', hrd, rdOne_of heq⟩)
  clear hus hw hblk hchg hrd heq
  go_wp2_with fail
  go_end0
  exact ⟨rfl, HT.out⟩
end Go.Proofs.Ytfpjickdkkhndaa.Pa


/- Kinds: rules and entries in memory. -/

namespace Go.Proofs.Ytfpjickdkkhndaa.Pa

set_option linter.unusedVariables false

set_option linter.unusedSimpArgs false

open Go.RowKit Go.Proofs.Ytfpjickdkkhndaa.C

theorem set_same {cs : Array Value} {o : Nat} {v : Value} (h : cs[o]? = some v) : cs.setIfInBounds o v = cs := by
  apply Array.ext'
  rw [Array.toList_setIfInBounds]
  apply List.ext_getElem?
  intro i
  rw [List.getElem?_set]
  have h' : cs.toList[o]? = some v := by rw [Array.getElem?_toList]; exact h
  by_cases e : o = i
  · subst e
    have hl := (List.getElem?_eq_some_iff.1 h').1
    rw [if_pos rfl, if_pos hl, h']
  · rw [if_neg e]
def ruleK : Ty Rule := Ty.iso (Ty.pair (Ty.int .i64) (Ty.pair (Ty.int .i64) (Ty.pair (Ty.int .i64) (Ty.pair (Ty.int .i64) Ty.str)))) (fun r => (r.id, r.pri, r.act, r.scope, r.pat))
theorem ruleK_sz : ruleK.sz = 5 := rfl
theorem rule_open {w : World} {S : Nat → Prop} {r : Rule} {cs : List Value} (h : ruleK.K w S r cs) : cs = ruleCells r ∧ RuleWf r := by
  obtain ⟨_, _, rfl, ⟨rfl, w1⟩, _, _, rfl, ⟨rfl, w2⟩, _, _, rfl, ⟨rfl, w3⟩, _, _, rfl, ⟨rfl, w4⟩, rfl, w5⟩ := h
  refine ⟨rfl, ?_, w5⟩
  intro u hu
  simp [Rule.nums] at hu
  rcases hu with rfl | rfl | rfl | rfl <;> assumption
theorem rule_shut {w : World} {S : Nat → Prop} {r : Rule} (h : RuleWf r) : ruleK.K w S r (ruleCells r) := by
  have h0 := h.1
  simp [Rule.nums] at h0
  exact ⟨[_], _, rfl, ⟨rfl, h0.1⟩, [_], _, rfl, ⟨rfl, h0.2.1⟩, [_], _, rfl, ⟨rfl, h0.2.2.1⟩, [_], [_], rfl, ⟨rfl, h0.2.2.2⟩, rfl, h.2⟩

/-- An entry's numbers. -/
def Entry.nums (e : Entry) : List Int := [e.view, e.client, e.request, e.dflt, e.closed, e.fuel, e.stack]
def entryK : Ty Entry := Ty.iso (Ty.pair (Ty.int .i64) (Ty.pair (Ty.int .i64) (Ty.pair (Ty.int .i64) (Ty.pair (Ty.int .i64) (Ty.pair (Ty.int .i64) (Ty.pair (Ty.int .i64) (Ty.pair (Ty.int .i64) (Ty.pair (Ty.slice ruleK) (Ty.slice (Ty.int .i64))))))))))
  (fun e => (e.view, e.client, e.request, e.dflt, e.closed, e.fuel, e.stack, e.put, e.drop))
theorem entryK_sz : entryK.sz = 9 := rfl
/-- An entry's cells: where its lists lie. -/
def EntryAt (w : World) (S : Nat → Prop) (e : Entry) (A1 : Option Addr) (n1 c1 : Nat) (A2 : Option Addr) (n2 c2 : Nat) : Prop :=
  (∀ u ∈ e.nums, (Lit.int .i64 u).wf = true) ∧ Ty.At ruleK w S A1 n1 c1 e.put ∧ Ty.At (Ty.int .i64) w S A2 n2 c2 e.drop
def entryCells (e : Entry) (A1 : Option Addr) (n1 c1 : Nat) (A2 : Option Addr) (n2 c2 : Nat) : List Value := ints e.nums ++ [.slice A1 n1 c1, .slice A2 n2 c2]
theorem entry_open {w : World} {S : Nat → Prop} {e : Entry} {cs : List Value} (h : entryK.K w S e cs) : ∃ A1 n1 c1 A2 n2 c2, cs = entryCells e A1 n1 c1 A2 n2 c2 ∧ EntryAt w S e A1 n1 c1 A2 n2 c2 := by
  obtain ⟨_, _, rfl, ⟨rfl, w1⟩, _, _, rfl, ⟨rfl, w2⟩, _, _, rfl, ⟨rfl, w3⟩, _, _, rfl, ⟨rfl, w4⟩, _, _, rfl, ⟨rfl, w5⟩, _, _, rfl, ⟨rfl, w6⟩, _, _, rfl, ⟨rfl, w7⟩, _, _, rfl, ⟨A1, n1, c1, rfl, h1⟩, A2, n2, c2, rfl, h2⟩ := h
  refine ⟨A1, n1, c1, A2, n2, c2, rfl, ?_, h1, h2⟩
  intro u hu
  simp [Entry.nums] at hu
  rcases hu with rfl | rfl | rfl | rfl | rfl | rfl | rfl <;> assumption
theorem entry_shut {w : World} {S : Nat → Prop} {e : Entry} {A1 : Option Addr} {n1 c1 : Nat} {A2 : Option Addr} {n2 c2 : Nat} (h : EntryAt w S e A1 n1 c1 A2 n2 c2) : entryK.K w S e (entryCells e A1 n1 c1 A2 n2 c2) := by
  have h0 := h.1
  simp [Entry.nums] at h0
  obtain ⟨w1, w2, w3, w4, w5, w6, w7⟩ := h0
  exact ⟨[_], _, rfl, ⟨rfl, w1⟩, [_], _, rfl, ⟨rfl, w2⟩, [_], _, rfl, ⟨rfl, w3⟩, [_], _, rfl, ⟨rfl, w4⟩, [_], _, rfl, ⟨rfl, w5⟩, [_], _, rfl, ⟨rfl, w6⟩, [_], _, rfl, ⟨rfl, w7⟩, [_], [_], rfl, ⟨A1, n1, c1, rfl, h.2.1⟩, A2, n2, c2, rfl, h.2.2⟩
theorem EntryAt.chg {w w' : World} {S M : Nat → Prop} {e : Entry} {A1 : Option Addr} {n1 c1 : Nat} {A2 : Option Addr} {n2 c2 : Nat} (h : EntryAt w S e A1 n1 c1 A2 n2 c2) (hc : Chg M w w') (hd : ∀ k, S k → ¬ M k) : EntryAt w' S e A1 n1 c1 A2 n2 c2 := ⟨h.1, h.2.1.chg hc hd, h.2.2.chg hc hd⟩
theorem EntryAt.mono {w : World} {S S' : Nat → Prop} {e : Entry} {A1 : Option Addr} {n1 c1 : Nat} {A2 : Option Addr} {n2 c2 : Nat} (h : EntryAt w S e A1 n1 c1 A2 n2 c2) (hd : ∀ k, S k → S' k) : EntryAt w S' e A1 n1 c1 A2 n2 c2 := ⟨h.1, h.2.1.mono hd, h.2.2.mono hd⟩
theorem EntryAt.bound {w : World} {S : Nat → Prop} {e : Entry} {A1 : Option Addr} {n1 c1 : Nat} {A2 : Option Addr} {n2 c2 : Nat} (h : EntryAt w S e A1 n1 c1 A2 n2 c2) : EntryAt w (fun k => S k ∧ k < w.heap.size) e A1 n1 c1 A2 n2 c2 := ⟨h.1, h.2.1.bound, h.2.2.bound⟩
/-- Cell j of an element of a slice that is read. -/
theorem elem_cell {w : World} {a : Addr} {i sz : Nat} {cs : List Value} (h : ∀ j u, cs[j]? = some u → w.cell? (a.add (i * sz + j)) = some u) (j : Nat) (u : Value) (hu : cs[j + 1]? = some u) : w.cell? ⟨(a.add (i * sz)).block, (a.add (i * sz)).off + (j + 1), none⟩ = some u := by
  have := h (j + 1) u hu
  rw [← C.add_add] at this
  generalize a.add (i * sz) = q at this ⊢
  rw [← this]
  congr 1
theorem elem_cell0 {w : World} {a : Addr} {i sz : Nat} {cs : List Value} (h : ∀ j u, cs[j]? = some u → w.cell? (a.add (i * sz + j)) = some u) (u : Value) (hu : cs[0]? = some u) : w.cell? (a.add (i * sz)) = some u := h 0 u hu
end Go.Proofs.Ytfpjickdkkhndaa.Pa


/- The contracts of the codec's list at rules. -/

namespace Go.Proofs.Ytfpjickdkkhndaa.Pa

set_option linter.unusedVariables false

set_option linter.unusedSimpArgs false

open Go.RowKit Go.Proofs.Ytfpjickdkkhndaa.C

attribute [local go_sem] max2_int min2_int max_two min_two

theorem rules_next {xs : List (Rule)} {k : Nat} {r : Rule} (h : xs[k]? = some r) (y : List UInt8) : y ++ (xs.take k).flatMap ruleB ++ ruleB r = y ++ (xs.take (k + 1)).flatMap ruleB := by
  rw [List.take_add_one, h, Option.toList_some, List.flatMap_append, List.append_assoc, List.flatMap_singleton]
theorem rules_len {xs : List (Rule)} (h : ∀ r ∈ xs, RuleOk r) (k : Nat) : ((xs.take k).flatMap ruleB).length ≤ 1030 * k := by
  induction k with
  | zero => simp
  | succ k ih =>
    rw [List.take_add_one, List.flatMap_append, List.length_append]
    cases hx : xs[k]? with
    | none => rw [Option.toList_none, List.flatMap_nil, List.length_nil]; omega
    | some r =>
      have := (fun hr => by rw [ruleB_len]; have := hr.2; omega : ∀ {r : Rule}, RuleOk r → (ruleB r).length ≤ 1030) (h r (List.mem_of_getElem? hx))
      simp only [Option.toList_some, List.flatMap_singleton]
      omega

set_option maxHeartbeats 4000000 in
set_option maxRecDepth 100000 in
theorem rules_w {w : World} {S R : Nat → Prop} {g p o bx : Nat} {v : Value} {x : List UInt8} {A : Option Addr} {n c : Nat} {xs : List (Rule)} (h : Wr w S g v x) (hp : w.cell? ⟨p, o, none⟩ = some (.slice A n c)) (hpS : ¬ S p) (hl : Ty.At ruleK w R A n c xs) (hR : ∀ k, R k → ¬ S k)
    (hb : w.cell? ⟨bx, 0, none⟩ = some (.pointer (some ⟨g, 0, none⟩))) (hbS : ¬ S bx) (hok : ∀ r ∈ xs, RuleOk r) (hn : n ≤ 100) (hx : x.length ≤ 600000000) (least : Int) :
    Calls Try.prog 85 #[.pointer (some ⟨g, 0, none⟩), .pointer (some ⟨p, o, none⟩), .int .i64 least, .func (.func 86) #[.pointer (some ⟨g, 0, none⟩)] #[]] w fun e w' => e = .returned (.tuple #[]) ∧ WrTo S g (x ++ num n ++ xs.flatMap ruleB) w w' := by
  have HB := hid h
  have HP := hid hp
  have HL := hid hl
  have HLB := hid hl.bound
  have HR := hid hR
  have HOK := hid hok
  have HBX := hid hb
  have HBL := hid (World.block_lt_of_cell? w _ hb)
  have hn2 : (n : Int) ≤ 100 := by omega
  have eg : ∀ args w, (callFunc 86 args).run Try.prog w = .ok (.enter 86 args) w := Go.Proofs.enters_of Try.func86 (by kernel_rfl) rfl
  clear h hl hR hok hb
  go_enter Try.func85, Try.ntmps85
  go_wp2_with fail
  refine (count_w HB.out (n := (n : Int)) ⟨by omega, by omega⟩ (by omega) least).mono ?_
  rintro e w1 ⟨rfl, v1, h1, hc1⟩
  have H1 := hid h1
  have HC1 := hid hc1
  have hd2 := h1.cells.2.2.1
  have hp1 : w1.cell? ⟨p, o, none⟩ = some (.slice A n c) := hc1.cell HP.out hpS
  clear h1 hc1 hp
  go_wp2_with fail
  clear hd2 hp1
  go_loopw [28] (fun i wr => ∃ k : Nat, k ≤ n ∧ i = .int .i64 k ∧ WrTo S g (x ++ num n ++ (xs.take k).flatMap ruleB) w wr) (fun i _ => n - (intOf i).toNat)
  case atStart => exact ⟨0, Nat.zero_le _, rfl, by simpa using ⟨v1, H1.out, HC1.out⟩⟩
  case round =>
    obtain ⟨k, hk, rfl, hT⟩ := hrel
    have HT := hid hT
    clear hT
    by_cases hlt : k < n
    · obtain ⟨r, hr⟩ : ∃ r, xs[k]? = some r := ⟨_, List.getElem?_eq_getElem (by have := HL.out.1; omega)⟩
      have HRO := hid (HOK.out r (List.mem_of_getElem? hr))
      obtain ⟨a, cs, ha, haR, hK, hcs⟩ := HLB.out.get (by decide) hr
      obtain ⟨rfl, hrw⟩ := rule_open hK
      clear hrw
      subst ha
      have hcs2 : ∀ j u, (ruleCells r)[j]? = some u → wr.cell? (a.add (k * 5 + j)) = some u := fun j u hj => by
        obtain ⟨_, _, hc⟩ := HT.out
        exact hc.cell (hcs j u hj) (by rw [add_block]; exact HR.out _ haR.1)
      have x0 := elem_cell0 hcs2 _ rfl
      have x1 := elem_cell hcs2 0 _ rfl
      have x2 := elem_cell hcs2 1 _ rfl
      have x3 := elem_cell hcs2 2 _ rfl
      have x4 := elem_cell hcs2 3 _ rfl
      have HRR := hid (rules_next hr)
      clear hcs hK hcs2 hr haR
      have hlt2 : (k : Int) < (n : Int) := by omega
      obtain ⟨v2, hv2, hc2⟩ := HT.out
      have H2 := hid hv2.bound
      have HC2 := hid hc2
      have hlen : (x ++ num n ++ (xs.take k).flatMap ruleB).length ≤ 700000000 := by
        have := rules_len HOK.out k
        rw [List.length_append, List.length_append, num_len]
        omega
      clear hv2 hc2
      go_wp2_with fail
      have CB := hid (show Chg (fun _ => False) wr (wr.alloc (.cells (ruleCells r).toArray 54)) from (Chg.refl _ wr).alloc _)
      refine (rule_w (S := fun k => (S k ∨ w.heap.size ≤ k) ∧ k < wr.heap.size) (r := r) (H2.out.chg CB.out (fun _ _ h => h)) (blk_new wr _) (fun hs => Nat.lt_irrefl _ hs.2) HRO.out (by omega)).mono ?_
      rintro e w3 ⟨rfl, h3⟩
      have HF := hid (HT.out.trans (WrTo.pre (S := fun k => S k ∨ w.heap.size ≤ k) CB.out h3 (fun k hk => .inl hk.1)))
      clear h3 x0 x1 x2 x3 x4
      rw [HRR.out] at HF
      go_wp2_with fail
      go_roundw
      case measure => simp [intOf]; omega
      case rel => first | exact ⟨k + 1, by omega, by go_num, HF.out⟩ | ((repeat apply Exists.intro); exact ⟨⟨k + 1, by omega, by go_num, HF.out⟩, rfl⟩)
    · clear eg
      go_wp2_with fail
      obtain rfl : k = n := by omega
      refine bodyPost_ret (results_none rfl _ _ _) rfl ?_
      have := HT.out
      rw [List.take_of_length_le (by have := HL.out.1; omega)] at this
      exact ⟨rfl, this⟩

/-- A list was read. -/
def RulesTo (w : World) (B g : Nat) (A : Option Addr) (n c : Nat) (b : List UInt8) (at_ : Nat) (bad : Bool) (p o tp : Nat) (cs : Array Value) (L : Nat) (w' : World) : Prop :=
  ∃ (xs : List (Rule)) (A' : Option Addr) (c' : Nat), xs.length ≤ n ∧ w'.heap[p]? = some (.cells (cs.setIfInBounds o (.slice A' xs.length c')) tp (0, 0)) ∧ Vec ruleK 54 w' (fun k => w.heap.size ≤ k) (fun k => w.heap.size ≤ k) (.slice A' xs.length c') xs ∧ Chg (fun j => j = g ∨ j = p) w w' ∧ RdTo B g A n c b at_ bad (rdSeq L rdRule) w' xs
/-- k of its elements were read; the count's end is at1. -/
structure RulesAt (w : World) (B g : Nat) (A : Option Addr) (n c : Nat) (b : List UInt8) (p o tp : Nat) (cs : Array Value) (Y : Option (List UInt8)) (k : Nat) (us : List (Rule)) (A' : Option Addr) (c' at' : Nat) (bad' : Bool) (wr : World) : Prop where
  len : us.length = k
  blk : wr.heap[p]? = some (.cells (cs.setIfInBounds o (.slice A' k c')) tp (0, 0))
  vec : Vec ruleK 54 wr (fun k => w.heap.size ≤ k) (fun k => w.heap.size ≤ k) (.slice A' k c') us
  chg : Chg (fun j => j = g ∨ j = p) w wr
  rd : Rd wr B g A n c b at' bad'
  eq : Y.bind (rdList rdRule k) = (left b at' bad').map fun r => (us, r)
theorem inforules : (Try.prog.info? 54).map (fun i => (i.zero, i.size, i.bytes)) = some (some (.agg #[.int .i64 0, .int .i64 0, .int .i64 0, .int .i64 0, .string ByteArray.empty]), 5, 48) := by kernel_rfl
theorem rules_seq {L : Nat} {X Y : Option (List UInt8)} {q : Nat} (h : X.bind (rdCountL L) = Y.map fun r => (q, r)) : X.bind (rdSeq L rdRule) = Y.bind (rdList rdRule q) := by
  have e : X.bind (rdSeq L rdRule) = (X.bind (rdCountL L)).bind fun r => rdList rdRule r.1 r.2 := by cases X <;> rfl
  rw [e, h]
  cases Y <;> rfl
theorem RulesAt.step {w : World} {B g : Nat} {A : Option Addr} {n c : Nat} {b : List UInt8} {p o tp : Nat} {cs : Array Value} {Y : Option (List UInt8)} {k : Nat} {us : List (Rule)} {A' : Option Addr} {c' at' : Nat} {wr w3 w4 : World} {y : Rule} {A4 : Option Addr} {c4 at2 : Nat} {bad2 : Bool} {ox : Nat}
    (h : RulesAt w B g A n c b p o tp cs Y k us A' c' at' false wr) (hpg : p ≠ g) (hox : wr.heap.size ≤ ox) (hc3 : Chg (fun j => j = g ∨ j = ox) wr w3) (hrd : Rd w3 B g A n c b at2 bad2) (heq : (left b at' false).bind rdRule = (left b at2 bad2).map fun r => (y, r)) (hpw : B ≤ p ∧ p < w.heap.size)
    (hv4 : Vec ruleK 54 w4 (fun k => w.heap.size ≤ k) (fun k => w.heap.size ≤ k) (.slice A4 (k + 1) c4) (us ++ [y])) (hc4 : Chg (fun j => (Value.slice A' k c').ownBlock = some j) w3 w4) :
    RulesAt w B g A n c b p o tp cs Y (k + 1) (us ++ [y]) A4 c4 at2 bad2 (w4.setCell ⟨p, o, none⟩ (.slice A4 (k + 1) c4)) := by
  have hlt := h.vec.lt
  have hge := h.vec.inS
  have hB := h.rd.low
  have hg := h.rd.lt
  have hgw : g < w.heap.size ∨ w.heap.size ≤ g := by omega
  have hpown : (Value.slice A' k c').ownBlock ≠ some p := fun e => by have := hge p e; omega
  have hgown : (Value.slice A' k c').ownBlock ≠ some g := h.vec.ne h.rd.blk (by decide)
  have b3 := hc3.blk h.blk (fun e => by rcases e with e | e; exact hpg e; have := lt_of_blk h.blk; omega)
  have b4 := hc4.blk b3 hpown
  have bs := blk_set b4 o (.slice A4 (k + 1) c4)
  rw [Array.setIfInBounds_setIfInBounds] at bs
  have cs4 : Chg (fun j => j = p) w4 (w4.setCell ⟨p, o, none⟩ (.slice A4 (k + 1) c4)) := (Chg.refl (fun j => j = p) w4).set (p := ⟨p, o, none⟩) (fun _ => rfl) _
  have hv4p : (Value.slice A4 (k + 1) c4).ownBlock ≠ some p := fun e => by have := hv4.inS p e; omega
  refine ⟨by rw [List.length_append, h.len]; rfl, bs, hv4.chg cs4 (fun j hj e => hv4p (e ▸ hj)) (fun j hj _ _ e => by subst e; omega), ?_, ?_, ?_⟩
  · refine ((h.chg.trans hc3 (fun j hj hl => ?_)).trans hc4 (fun j hj hl => ?_)).trans cs4 (fun j hj _ => .inr hj)
    · rcases hj with hj | hj
      · exact .inl hj
      · have := h.chg.size; omega
    · have := hge j hj; omega
  · exact (hrd.chg (M := fun j => (Value.slice A' k c').ownBlock = some j) hc4 (fun j hj => by have := hge j hj; omega) hgown).chg cs4 (fun j hj => by subst hj; exact hpw.1) (fun e => hpg e.symm)
  · rw [rdList_step h.eq, heq]
    cases (left b at2 bad2) <;> rfl
theorem RulesAt.done {w : World} {B g : Nat} {A : Option Addr} {n c : Nat} {b : List UInt8} {p o tp : Nat} {cs : Array Value} {k q L : Nat} {us : List (Rule)} {A' : Option Addr} {c' at' : Nat} {bad' : Bool} {wr : World} {at_ at1 : Nat} {bad bad1 : Bool} (h : RulesAt w B g A n c b p o tp cs (left b at1 bad1) k us A' c' at' bad' wr)
    (he : (left b at_ bad).bind (rdCountL L) = (left b at1 bad1).map fun r => (q, r)) (hk : k ≤ q) (hq : q ≤ n) (hd : k = q ∨ bad' = true) : RulesTo w B g A n c b at_ bad p o tp cs L wr := by
  obtain rfl := h.len
  refine ⟨us, A', c', by omega, h.blk, h.vec, h.chg, at', bad', h.rd, ?_⟩
  rw [rules_seq he]
  rcases hd with rfl | rfl
  · exact h.eq
  · rw [left_none, Option.map_none]
    have := h.eq
    rw [left_none, Option.map_none] at this
    exact rdList_stop this hk

set_option maxHeartbeats 4000000 in
set_option maxRecDepth 100000 in
theorem rules_r {w : World} {B g p o bx tp : Nat} {A : Option Addr} {n c : Nat} {b : List UInt8} {at_ : Nat} {bad : Bool} {cs : Array Value} (h : Rd w B g A n c b at_ bad) (hp : w.heap[p]? = some (.cells cs tp (0, 0))) (ho : cs[o]? = some (.slice none 0 0)) (hpB : B ≤ p) (hpg : p ≠ g)
    (hb : w.cell? ⟨bx, 0, none⟩ = some (.pointer (some ⟨g, 0, none⟩))) (hbp : bx ≠ p ∧ bx ≠ g) (hn : n ≤ 1000000) {L : Nat} (hL : 0 < L) (hL2 : L ≤ 1000) :
    Calls Try.prog 85 #[.pointer (some ⟨g, 0, none⟩), .pointer (some ⟨p, o, none⟩), .int .i64 (L : Int), .func (.func 86) #[.pointer (some ⟨g, 0, none⟩)] #[]] w fun e w' => e = .returned (.tuple #[]) ∧ RulesTo w B g A n c b at_ bad p o tp cs L w' := by
  have H := hid h
  have HP := hid hp
  have HO := hid ho
  have HBX := hid hb
  have HBL := hid (World.block_lt_of_cell? w _ hb)
  have HPL := hid (lt_of_blk hp)
  have HGL := hid h.lt
  have hn2 : (n : Int) ≤ 1000000 := by omega
  have eg : ∀ args w, (callFunc 86 args).run Try.prog w = .ok (.enter 86 args) w := Go.Proofs.enters_of Try.func86 (by kernel_rfl) rfl
  have hp0 : w.cell? ⟨p, o, none⟩ = some (.slice none 0 0) := by rw [cellAt hp]; exact ho
  clear h hp hb ho
  go_enter Try.func85, Try.ntmps85
  go_wp2_with fail
  refine (count_r H.out (k := 0) (by decide) (by omega) hL hL2).mono ?_
  rintro e w1 ⟨q, rfl, hqn, hc1, at1, bad1, hrd1, heq1⟩
  have HQ := hid heq1
  have hd2 := hrd1.cells.2.2.1
  have H0 := hid (show RulesAt w B g A n c b p o tp cs (left b at1 bad1) 0 [] none 0 at1 bad1 w1 from ⟨rfl, by
    have e : cs.setIfInBounds o (.slice none 0 0) = cs := set_same HO.out
    rw [e]
    exact hc1.blk HP.out hpg, Vec.nil _ _ _ _ _, hc1.mono (fun _ h _ => .inl h), hrd1, by cases bad1 <;> simp [left, rdList]⟩)
  clear hc1 hrd1 heq1 hp0
  go_wp2_with fail
  clear hd2
  go_loopw [11] (fun i wr => ∃ (k : Nat) (us : List (Rule)) (A' : Option Addr) (c' at' : Nat) (bad' : Bool), k ≤ q ∧ i = .int .i64 k ∧ RulesAt w B g A n c b p o tp cs (left b at1 bad1) k us A' c' at' bad' wr) (fun i _ => q - (intOf i).toNat)
  case atStart => exact ⟨0, [], none, 0, at1, bad1, Nat.zero_le _, rfl, H0.out⟩
  case round =>
    obtain ⟨k, us, A', c', at', bad', hk, rfl, hT⟩ := hrel
    have HT := hid hT
    have hd3 := hT.rd.cells.2.2.2
    clear hT
    by_cases hlt : k < q
    · have hlt2 : (k : Int) < (q : Int) := by omega
      cases bad' with
      | true =>
        clear eg
        go_wp2_with fail
        go_end0
        exact ⟨rfl, HT.out.done HQ.out hk hqn (.inr rfl)⟩
      | false =>
        go_wp2_with fail
        clear hd3
        have CB := hid (show Chg (fun _ => False) wr (wr.alloc (.cells (ruleCells ⟨0, 0, 0, 0, ByteArray.empty⟩).toArray 54)) from (Chg.refl _ wr).alloc _)
        have BB := hid (show (wr.alloc (.cells (ruleCells ⟨0, 0, 0, 0, ByteArray.empty⟩).toArray 54)).heap[wr.heap.size]? = some (.cells (ruleCells ⟨0, 0, 0, 0, ByteArray.empty⟩).toArray 54 (0, 0)) from blk_new wr _)
        refine (rule_r (r := ⟨0, 0, 0, 0, ByteArray.empty⟩) (HT.out.rd.chg CB.out (fun _ h => h.elim) (fun h => h)) BB.out (by have := HT.out.chg.size; have := HPL.out; omega) (by have := HT.out.rd.lt; omega) ⟨by intro u hu; simp [Rule.nums] at hu; subst hu; decide, by decide⟩ (by omega)).mono ?_
        rintro e w3 ⟨rfl, y, hyw, hyb, h3, at2, bad2, h5, h6⟩
        have H5 := hid h5
        have H6 := hid h6
        have HYB := hid hyb
        have HYW := hid hyw
        have HPB := hid (show p < wr.heap.size from Nat.lt_of_lt_of_le HPL.out HT.out.chg.size)
        have C3 := hid (show Chg (fun j => j = g ∨ j = wr.heap.size) wr w3 from (CB.out.mono (fun _ h _ => h.elim)).trans h3 (fun _ h _ => h))
        have HPC := hid (C3.out.blk HT.out.blk (fun e => by rcases e with e | e; exact hpg e; have := HPB.out; omega))
        have HOB := hid (show ∀ j, (Value.slice A' k c').ownBlock = some j → j ≠ wr.heap.size ∧ j ≠ p ∧ j ≠ g from fun j hj => ⟨by have := HT.out.vec.lt j hj; omega, by have := HT.out.vec.inS j hj; have := HPL.out; omega, fun e => HT.out.vec.ne HT.out.rd.blk (by decide) (e ▸ hj)⟩)
        have HV3 := hid (HT.out.vec.chg C3.out (fun j hj e => by rcases e with e | e; exact (HOB.out j hj).2.2 e; exact (HOB.out j hj).1 e) (fun j hj _ hl e => by
          rcases e with e | e
          · have := HGL.out; omega
          · omega))
        obtain ⟨M, hMM⟩ : ∃ M : Nat → Prop, ∀ i, M i ↔ (Value.slice A' k c').ownBlock = some i := ⟨_, fun _ => Iff.rfl⟩
        have MM := hid hMM
        have hcell0 : ∀ wx, Chg M w3 wx → wx.cell? ⟨p, o, none⟩ = some (.slice A' k c') := fun wx hx => hx.cell (by
          rw [cellAt HPC.out]
          have := Array.getElem?_eq_some_iff.1 HO.out
          obtain ⟨hl, _⟩ := this
          simp [hl]) (fun h => (HOB.out _ ((MM.out _).1 h)).2.1 rfl)
        have hy0 : ∀ wx, Chg M w3 wx → wx.cell? ⟨wr.heap.size, 0, none⟩ = some (.int .i64 y.id) := fun wx hx => hx.cell (by rw [cellAt HYB.out]; rfl) (fun h => (HOB.out _ ((MM.out _).1 h)).1 rfl)
        have hy1 : ∀ wx, Chg M w3 wx → wx.cell? ⟨wr.heap.size, 1, none⟩ = some (.int .i64 y.pri) := fun wx hx => hx.cell (by rw [cellAt HYB.out]; rfl) (fun h => (HOB.out _ ((MM.out _).1 h)).1 rfl)
        have hy2 : ∀ wx, Chg M w3 wx → wx.cell? ⟨wr.heap.size, 2, none⟩ = some (.int .i64 y.act) := fun wx hx => hx.cell (by rw [cellAt HYB.out]; rfl) (fun h => (HOB.out _ ((MM.out _).1 h)).1 rfl)
        have hy3 : ∀ wx, Chg M w3 wx → wx.cell? ⟨wr.heap.size, 3, none⟩ = some (.int .i64 y.scope) := fun wx hx => hx.cell (by rw [cellAt HYB.out]; rfl) (fun h => (HOB.out _ ((MM.out _).1 h)).1 rfl)
        have hy4 : ∀ wx, Chg M w3 wx → wx.cell? ⟨wr.heap.size, 4, none⟩ = some (.string y.pat) := fun wx hx => hx.cell (by rw [cellAt HYB.out]; rfl) (fun h => (HOB.out _ ((MM.out _).1 h)).1 rfl)
        have HKL := hid HT.out.len
        have h4 := (fun (w' : World) (D : Nat → Prop) (_ : Chg (fun _ => False) w3 w') (hD : ∀ j, wr.heap.size < j → j < w3.heap.size → D j) => (Ty.Row.one_ (rule_shut HYW.out) : Ty.Row ruleK w' D [y] (ruleCells y)))
        have H4 := hid h4
        clear h4 hMM h3 h5 h6 hyb hyw
        go_wp2_with fail
        refine wpB_start (fun wx : World => Chg M w3 wx) (by kernel_rfl) ?_
        have hHeld : (fun wx : World => Chg M w3 wx) _ := (by first | assumption | exact Chg.drew (Chg.refl _ _) | (show _ ∧ _; refine ⟨?_, ?_⟩ <;> assumption) | (first | assumption | exact hHeld.alloc _ | exact hHeld.trans h2 (fun _ h _ => (MM.out _).2 h)))
        -- 0: t49 := move t1 : 142
        refine wpB_take (i := 0) (v := ?_) (get_of_drop rfl) (by kernel_rfl) (by kernel_rfl) (by kernel_rfl) (by kernel_rfl) (fun _ _ _ h => h) (Or.inl ⟨by rfl, ?_⟩) hHeld ?_
        rotate_left
        · (intro w hSw; (try dsimp only at hSw); go_simp <;> with_reducible rfl)
        try simp only [Act.put, List.setIfInBounds_toArray, List.set_cons_zero, List.set_cons_succ]
        -- 1: t50 := move t1 : 142
        refine wpB_take (i := 1) (v := ?_) (get_of_drop rfl) (by kernel_rfl) (by kernel_rfl) (by kernel_rfl) (by kernel_rfl) (fun _ _ _ h => h) (Or.inl ⟨by rfl, ?_⟩) hHeld ?_
        rotate_left
        · (intro w hSw; (try dsimp only at hSw); go_simp <;> with_reducible rfl)
        try simp only [Act.put, List.setIfInBounds_toArray, List.set_cons_zero, List.set_cons_succ]
        -- 2: t51 := nilCheck t50 : 0
        refine wpB_take (i := 2) (v := ?_) (get_of_drop rfl) (by kernel_rfl) (by kernel_rfl) (by kernel_rfl) (by kernel_rfl) (fun _ _ _ h => h) (Or.inl ⟨by rfl, ?_⟩) hHeld ?_
        rotate_left
        · (intro w hSw; (try dsimp only at hSw); go_simp <;> with_reducible rfl)
        try simp only [Act.put, List.setIfInBounds_toArray, List.set_cons_zero, List.set_cons_succ]
        -- 3: t52 := load 47 t51 : 47
        refine wpB_take (i := 3) (v := ?_) (get_of_drop rfl) (by kernel_rfl) (by kernel_rfl) (by kernel_rfl) (by kernel_rfl) (fun _ _ _ h => h) (Or.inl ⟨by rfl, ?_⟩) hHeld ?_
        rotate_left
        · (intro w hSw; (try dsimp only at hSw); go_simp <;> with_reducible rfl)
        try simp only [Act.put, List.setIfInBounds_toArray, List.set_cons_zero, List.set_cons_succ]
        -- 4: t53 := load 54 t12 : 54
        refine wpB_take (i := 4) (v := ?_) (get_of_drop rfl) (by kernel_rfl) (by kernel_rfl) (by kernel_rfl) (by kernel_rfl) (fun _ _ _ h => h) (Or.inl ⟨by rfl, ?_⟩) hHeld ?_
        rotate_left
        · (intro w hSw; (try dsimp only at hSw); go_simp <;> with_reducible rfl)
        try simp only [Act.put, List.setIfInBounds_toArray, List.set_cons_zero, List.set_cons_succ]
        -- 5: t54 := buildSlice 47 1 [⟨0, t53⟩] : 47
        refine wpB_act (i := 5) (by kernel_rfl) (get_of_drop rfl) (fun K hK => ?_)
        go_simp
        refine hK.out _ _ ?_ (fun hHeld2 => ?_)
        · (first | assumption | exact hHeld.alloc _ | exact hHeld.trans h2 (fun _ h _ => (MM.out _).2 h))
        clear hHeld hK K
        have hHeld := hHeld2
        clear hHeld2
        try simp only [Act.put, List.setIfInBounds_toArray, List.set_cons_zero, List.set_cons_succ]
        -- 6: t55 := append(t52, t54) types [47, 47] : 47
        refine wpB_act (i := 6) (by kernel_rfl) (get_of_drop rfl) (fun K hK => ?_)
        refine vec_step (d := ruleK) _ rfl (.tmp 52) (.tmp 54) 47 54 (.agg #[.int .i64 0, .int .i64 0, .int .i64 0, .int .i64 0, .string ByteArray.empty]) 48 rfl Try.underlying47 inforules rfl (by decide) (by decide) (.slice A' k c') rfl ((HV3.out.chg ((((Chg.refl (fun _ => False) w3).alloc _)).drew) (fun _ _ h => h) (fun _ _ _ _ h => h))) (some ⟨w3.heap.size, 0, none⟩) 1 1 (ys := [y]) rfl (by simp) (by omega) rfl (lit_sees w3 (ruleCells y).toArray 54) (H4.out _ _ (((Chg.refl (fun _ => False) w3).alloc _).drew) (fun j q1 q2 => ⟨Nat.le_trans HT.out.chg.size (Nat.le_of_lt q1), fun e' => Nat.lt_irrefl _ (Nat.lt_trans (HT.out.vec.lt j e') q1), Nat.lt_of_lt_of_le q2 (((Chg.refl (fun _ => False) w3).alloc _).drew).size⟩)) (by rw [HKL.out]; omega) ?_
        have HH := hid hHeld
        rw [HKL.out]
        intro A4 c4 w4 h1 h2
        have f0' : w4.frozen? ⟨p, o, none⟩ = false := freeAt ((HH.out.trans h2 (fun _ h _ => (MM.out _).2 h)).blk HPC.out (fun h => (HOB.out _ ((MM.out _).1 h)).2.1 rfl)) o
        have c0' : w4.cell? ⟨p, o, none⟩ = some (.slice A' k c') := hcell0 _ (HH.out.trans h2 (fun _ h _ => (MM.out _).2 h))
        refine hK.out _ _ ?_ (fun hHeld2 => ?_)
        · (first | assumption | exact hHeld.alloc _ | exact hHeld.trans h2 (fun _ h _ => (MM.out _).2 h))
        clear hHeld hK K
        have hHeld := hHeld2
        clear hHeld2
        try simp only [Act.put, List.setIfInBounds_toArray, List.set_cons_zero, List.set_cons_succ]
        -- 7: t56 := nilCheck t49 : 0
        refine wpB_take (i := 7) (v := ?_) (get_of_drop rfl) (by kernel_rfl) (by kernel_rfl) (by kernel_rfl) (by kernel_rfl) (fun _ _ _ h => h) (Or.inl ⟨by rfl, ?_⟩) hHeld ?_
        rotate_left
        · (intro w hSw; (try dsimp only at hSw); go_simp <;> with_reducible rfl)
        try simp only [Act.put, List.setIfInBounds_toArray, List.set_cons_zero, List.set_cons_succ]
        -- 8: t- := store 47 t56 t55 : 0 (BARRIER)
        refine wpB_bar (i := 8) (by kernel_rfl) (get_of_drop rfl) (by kernel_rfl) (fun K hK => ?_)
        go_simp
        refine hK.out _ _ (fun _ : World => True) ?_
        clear hHeld hK K
        have hHeld := trivial
        try simp only [Act.put, List.setIfInBounds_toArray, List.set_cons_zero, List.set_cons_succ]
        refine wpB_done (by kernel_rfl) ?_ _
        have HN := hid (HT.out.step (w4 := w4) (A4 := A4) (c4 := c4) hpg (Nat.le_refl _) C3.out H5.out H6.out ⟨hpB, HPL.out⟩ (h1.mono (fun k h _ => by rcases h with h | h; exact h; exact Nat.le_trans (Nat.le_trans HT.out.chg.size C3.out.size) (Nat.le_trans (((Chg.refl (fun _ => False) w3).alloc _).drew).size h)) (fun k h _ => h)) (((Chg.refl (fun j => (Value.slice A' k c').ownBlock = some j) w3).alloc _).drew.trans h2 (fun _ h _ => h)))
        clear h1 h2 hHeld hcell0 f0' c0'
        go_wp2_with fail
        go_roundw
        case measure => simp [intOf]; omega
        case rel => first | exact ⟨k + 1, _, _, _, _, _, hlt, by go_num, HN.out⟩ | ((repeat apply Exists.intro); exact ⟨⟨k + 1, _, _, _, _, _, hlt, by go_num, HN.out⟩, rfl⟩)
    · clear eg
      have hkq : ¬ (k : Int) < (q : Int) := by omega
      go_wp2_with fail
      go_end0
      exact ⟨rfl, HT.out.done HQ.out hk hqn (.inl (by omega))⟩
end Go.Proofs.Ytfpjickdkkhndaa.Pa


/- The contracts of the codec's list at numbers. -/

namespace Go.Proofs.Ytfpjickdkkhndaa.Pa

set_option linter.unusedVariables false

set_option linter.unusedSimpArgs false

open Go.RowKit Go.Proofs.Ytfpjickdkkhndaa.C

attribute [local go_sem] max2_int min2_int max_two min_two

theorem nums_next {xs : List (Int)} {k : Nat} {r : Int} (h : xs[k]? = some r) (y : List UInt8) : y ++ (xs.take k).flatMap num ++ num r = y ++ (xs.take (k + 1)).flatMap num := by
  rw [List.take_add_one, h, Option.toList_some, List.flatMap_append, List.append_assoc, List.flatMap_singleton]
theorem nums_len {xs : List (Int)} (h : ∀ r ∈ xs, NumOk r) (k : Nat) : ((xs.take k).flatMap num).length ≤ 6 * k := by
  induction k with
  | zero => simp
  | succ k ih =>
    rw [List.take_add_one, List.flatMap_append, List.length_append]
    cases hx : xs[k]? with
    | none => rw [Option.toList_none, List.flatMap_nil, List.length_nil]; omega
    | some r =>
      have := (fun _ => by rw [num_len]; omega : ∀ {r : Int}, NumOk r → (num r).length ≤ 6) (h r (List.mem_of_getElem? hx))
      simp only [Option.toList_some, List.flatMap_singleton]
      omega

set_option maxHeartbeats 4000000 in
set_option maxRecDepth 100000 in
theorem nums_w {w : World} {S R : Nat → Prop} {g p o bx : Nat} {v : Value} {x : List UInt8} {A : Option Addr} {n c : Nat} {xs : List (Int)} (h : Wr w S g v x) (hp : w.cell? ⟨p, o, none⟩ = some (.slice A n c)) (hpS : ¬ S p) (hl : Ty.At (Ty.int .i64) w R A n c xs) (hR : ∀ k, R k → ¬ S k)
    (hb : w.cell? ⟨bx, 0, none⟩ = some (.pointer (some ⟨g, 0, none⟩))) (hbS : ¬ S bx) (hok : ∀ r ∈ xs, NumOk r) (hn : n ≤ 100) (hx : x.length ≤ 600000000) (least : Int) :
    Calls Try.prog 87 #[.pointer (some ⟨g, 0, none⟩), .pointer (some ⟨p, o, none⟩), .int .i64 least, .func (.func 88) #[] #[.pointer (some ⟨bx, 0, none⟩)]] w fun e w' => e = .returned (.tuple #[]) ∧ WrTo S g (x ++ num n ++ xs.flatMap num) w w' := by
  have HB := hid h
  have HP := hid hp
  have HL := hid hl
  have HLB := hid hl.bound
  have HR := hid hR
  have HOK := hid hok
  have HBX := hid hb
  have HBL := hid (World.block_lt_of_cell? w _ hb)
  have hn2 : (n : Int) ≤ 100 := by omega
  have eg : ∀ args w, (callFunc 88 args).run Try.prog w = .ok (.enter 88 args) w := Go.Proofs.enters_of Try.func88 (by kernel_rfl) rfl
  clear h hl hR hok hb
  go_enter Try.func87, Try.ntmps87
  go_wp2_with fail
  refine (count_w HB.out (n := (n : Int)) ⟨by omega, by omega⟩ (by omega) least).mono ?_
  rintro e w1 ⟨rfl, v1, h1, hc1⟩
  have H1 := hid h1
  have HC1 := hid hc1
  have hd2 := h1.cells.2.2.1
  have hp1 : w1.cell? ⟨p, o, none⟩ = some (.slice A n c) := hc1.cell HP.out hpS
  clear h1 hc1 hp
  go_wp2_with fail
  clear hd2 hp1
  go_loopw [28] (fun i wr => ∃ k : Nat, k ≤ n ∧ i = .int .i64 k ∧ WrTo S g (x ++ num n ++ (xs.take k).flatMap num) w wr) (fun i _ => n - (intOf i).toNat)
  case atStart => exact ⟨0, Nat.zero_le _, rfl, by simpa using ⟨v1, H1.out, HC1.out⟩⟩
  case round =>
    obtain ⟨k, hk, rfl, hT⟩ := hrel
    have HT := hid hT
    clear hT
    by_cases hlt : k < n
    · obtain ⟨r, hr⟩ : ∃ r, xs[k]? = some r := ⟨_, List.getElem?_eq_getElem (by have := HL.out.1; omega)⟩
      have HRO := hid (HOK.out r (List.mem_of_getElem? hr))
      obtain ⟨a, cs, ha, haR, hK, hcs⟩ := HLB.out.get (by decide) hr
      obtain ⟨rfl, hrw⟩ := (id hK)
      clear hrw
      subst ha
      have hcs2 : ∀ j u, ([Value.int .i64 r])[j]? = some u → wr.cell? (a.add (k * 1 + j)) = some u := fun j u hj => by
        obtain ⟨_, _, hc⟩ := HT.out
        exact hc.cell (hcs j u hj) (by rw [add_block]; exact HR.out _ haR.1)
      have x0 := elem_cell0 hcs2 _ rfl
      rw [Nat.mul_one] at x0
      have HRR := hid (nums_next hr)
      clear hcs hK hcs2 hr haR
      have hlt2 : (k : Int) < (n : Int) := by omega
      obtain ⟨v2, hv2, hc2⟩ := HT.out
      have H2 := hid hv2.bound
      have HC2 := hid hc2
      have hlen : (x ++ num n ++ (xs.take k).flatMap num).length ≤ 700000000 := by
        have := nums_len HOK.out k
        rw [List.length_append, List.length_append, num_len]
        omega
      clear hv2 hc2
      go_wp2_with fail
      have CB := hid (show Chg (fun _ => False) wr (wr.alloc (.cells ([Value.int .i64 r]).toArray 3)) from (Chg.refl _ wr).alloc _)
      refine (one_w (S := fun k => (S k ∨ w.heap.size ≤ k) ∧ k < wr.heap.size) (u := r) (H2.out.chg CB.out (fun _ _ h => h)) (blk_new wr _) (fun hs => Nat.lt_irrefl _ hs.2) (CB.out.cell (HC2.out.cell HBX.out hbS) (fun h => h)) HRO.out (by omega)).mono ?_
      rintro e w3 ⟨rfl, h3⟩
      have HF := hid (HT.out.trans (WrTo.pre (S := fun k => S k ∨ w.heap.size ≤ k) CB.out h3 (fun k hk => .inl hk.1)))
      clear h3 x0
      rw [HRR.out] at HF
      go_wp2_with fail
      go_roundw
      case measure => simp [intOf]; omega
      case rel => first | exact ⟨k + 1, by omega, by go_num, HF.out⟩ | ((repeat apply Exists.intro); exact ⟨⟨k + 1, by omega, by go_num, HF.out⟩, rfl⟩)
    · clear eg
      go_wp2_with fail
      obtain rfl : k = n := by omega
      refine bodyPost_ret (results_none rfl _ _ _) rfl ?_
      have := HT.out
      rw [List.take_of_length_le (by have := HL.out.1; omega)] at this
      exact ⟨rfl, this⟩

/-- A list was read. -/
def Nums_To (w : World) (B g : Nat) (A : Option Addr) (n c : Nat) (b : List UInt8) (at_ : Nat) (bad : Bool) (p o tp : Nat) (cs : Array Value) (L : Nat) (w' : World) : Prop :=
  ∃ (xs : List (Int)) (A' : Option Addr) (c' : Nat), xs.length ≤ n ∧ w'.heap[p]? = some (.cells (cs.setIfInBounds o (.slice A' xs.length c')) tp (0, 0)) ∧ Vec (Ty.int .i64) 3 w' (fun k => w.heap.size ≤ k) (fun k => w.heap.size ≤ k) (.slice A' xs.length c') xs ∧ Chg (fun j => j = g ∨ j = p) w w' ∧ RdTo B g A n c b at_ bad (rdSeq L rdNum) w' xs
/-- k of its elements were read; the count's end is at1. -/
structure Nums_At (w : World) (B g : Nat) (A : Option Addr) (n c : Nat) (b : List UInt8) (p o tp : Nat) (cs : Array Value) (Y : Option (List UInt8)) (k : Nat) (us : List (Int)) (A' : Option Addr) (c' at' : Nat) (bad' : Bool) (wr : World) : Prop where
  len : us.length = k
  blk : wr.heap[p]? = some (.cells (cs.setIfInBounds o (.slice A' k c')) tp (0, 0))
  vec : Vec (Ty.int .i64) 3 wr (fun k => w.heap.size ≤ k) (fun k => w.heap.size ≤ k) (.slice A' k c') us
  chg : Chg (fun j => j = g ∨ j = p) w wr
  rd : Rd wr B g A n c b at' bad'
  eq : Y.bind (rdList rdNum k) = (left b at' bad').map fun r => (us, r)
theorem infonums : (Try.prog.info? 3).map (fun i => (i.zero, i.size, i.bytes)) = some (some (.int .i64 0), 1, 8) := by kernel_rfl
theorem nums_seq {L : Nat} {X Y : Option (List UInt8)} {q : Nat} (h : X.bind (rdCountL L) = Y.map fun r => (q, r)) : X.bind (rdSeq L rdNum) = Y.bind (rdList rdNum q) := by
  have e : X.bind (rdSeq L rdNum) = (X.bind (rdCountL L)).bind fun r => rdList rdNum r.1 r.2 := by cases X <;> rfl
  rw [e, h]
  cases Y <;> rfl
theorem Nums_At.step {w : World} {B g : Nat} {A : Option Addr} {n c : Nat} {b : List UInt8} {p o tp : Nat} {cs : Array Value} {Y : Option (List UInt8)} {k : Nat} {us : List (Int)} {A' : Option Addr} {c' at' : Nat} {wr w3 w4 : World} {y : Int} {A4 : Option Addr} {c4 at2 : Nat} {bad2 : Bool} {ox : Nat}
    (h : Nums_At w B g A n c b p o tp cs Y k us A' c' at' false wr) (hpg : p ≠ g) (hox : wr.heap.size ≤ ox) (hc3 : Chg (fun j => j = g ∨ j = ox) wr w3) (hrd : Rd w3 B g A n c b at2 bad2) (heq : (left b at' false).bind rdNum = (left b at2 bad2).map fun r => (y, r)) (hpw : B ≤ p ∧ p < w.heap.size)
    (hv4 : Vec (Ty.int .i64) 3 w4 (fun k => w.heap.size ≤ k) (fun k => w.heap.size ≤ k) (.slice A4 (k + 1) c4) (us ++ [y])) (hc4 : Chg (fun j => (Value.slice A' k c').ownBlock = some j) w3 w4) :
    Nums_At w B g A n c b p o tp cs Y (k + 1) (us ++ [y]) A4 c4 at2 bad2 (w4.setCell ⟨p, o, none⟩ (.slice A4 (k + 1) c4)) := by
  have hlt := h.vec.lt
  have hge := h.vec.inS
  have hB := h.rd.low
  have hg := h.rd.lt
  have hgw : g < w.heap.size ∨ w.heap.size ≤ g := by omega
  have hpown : (Value.slice A' k c').ownBlock ≠ some p := fun e => by have := hge p e; omega
  have hgown : (Value.slice A' k c').ownBlock ≠ some g := h.vec.ne h.rd.blk (by decide)
  have b3 := hc3.blk h.blk (fun e => by rcases e with e | e; exact hpg e; have := lt_of_blk h.blk; omega)
  have b4 := hc4.blk b3 hpown
  have bs := blk_set b4 o (.slice A4 (k + 1) c4)
  rw [Array.setIfInBounds_setIfInBounds] at bs
  have cs4 : Chg (fun j => j = p) w4 (w4.setCell ⟨p, o, none⟩ (.slice A4 (k + 1) c4)) := (Chg.refl (fun j => j = p) w4).set (p := ⟨p, o, none⟩) (fun _ => rfl) _
  have hv4p : (Value.slice A4 (k + 1) c4).ownBlock ≠ some p := fun e => by have := hv4.inS p e; omega
  refine ⟨by rw [List.length_append, h.len]; rfl, bs, hv4.chg cs4 (fun j hj e => hv4p (e ▸ hj)) (fun j hj _ _ e => by subst e; omega), ?_, ?_, ?_⟩
  · refine ((h.chg.trans hc3 (fun j hj hl => ?_)).trans hc4 (fun j hj hl => ?_)).trans cs4 (fun j hj _ => .inr hj)
    · rcases hj with hj | hj
      · exact .inl hj
      · have := h.chg.size; omega
    · have := hge j hj; omega
  · exact (hrd.chg (M := fun j => (Value.slice A' k c').ownBlock = some j) hc4 (fun j hj => by have := hge j hj; omega) hgown).chg cs4 (fun j hj => by subst hj; exact hpw.1) (fun e => hpg e.symm)
  · rw [rdList_step h.eq, heq]
    cases (left b at2 bad2) <;> rfl
theorem Nums_At.done {w : World} {B g : Nat} {A : Option Addr} {n c : Nat} {b : List UInt8} {p o tp : Nat} {cs : Array Value} {k q L : Nat} {us : List (Int)} {A' : Option Addr} {c' at' : Nat} {bad' : Bool} {wr : World} {at_ at1 : Nat} {bad bad1 : Bool} (h : Nums_At w B g A n c b p o tp cs (left b at1 bad1) k us A' c' at' bad' wr)
    (he : (left b at_ bad).bind (rdCountL L) = (left b at1 bad1).map fun r => (q, r)) (hk : k ≤ q) (hq : q ≤ n) (hd : k = q ∨ bad' = true) : Nums_To w B g A n c b at_ bad p o tp cs L wr := by
  obtain rfl := h.len
  refine ⟨us, A', c', by omega, h.blk, h.vec, h.chg, at', bad', h.rd, ?_⟩
  rw [nums_seq he]
  rcases hd with rfl | rfl
  · exact h.eq
  · rw [left_none, Option.map_none]
    have := h.eq
    rw [left_none, Option.map_none] at this
    exact rdList_stop this hk

set_option maxHeartbeats 4000000 in
set_option maxRecDepth 100000 in
theorem nums_r {w : World} {B g p o bx tp : Nat} {A : Option Addr} {n c : Nat} {b : List UInt8} {at_ : Nat} {bad : Bool} {cs : Array Value} (h : Rd w B g A n c b at_ bad) (hp : w.heap[p]? = some (.cells cs tp (0, 0))) (ho : cs[o]? = some (.slice none 0 0)) (hpB : B ≤ p) (hpg : p ≠ g)
    (hb : w.cell? ⟨bx, 0, none⟩ = some (.pointer (some ⟨g, 0, none⟩))) (hbp : bx ≠ p ∧ bx ≠ g) (hn : n ≤ 1000000) {L : Nat} (hL : 0 < L) (hL2 : L ≤ 1000) :
    Calls Try.prog 87 #[.pointer (some ⟨g, 0, none⟩), .pointer (some ⟨p, o, none⟩), .int .i64 (L : Int), .func (.func 88) #[] #[.pointer (some ⟨bx, 0, none⟩)]] w fun e w' => e = .returned (.tuple #[]) ∧ Nums_To w B g A n c b at_ bad p o tp cs L w' := by
  have H := hid h
  have HP := hid hp
  have HO := hid ho
  have HBX := hid hb
  have HBL := hid (World.block_lt_of_cell? w _ hb)
  have HPL := hid (lt_of_blk hp)
  have HGL := hid h.lt
  have hn2 : (n : Int) ≤ 1000000 := by omega
  have eg : ∀ args w, (callFunc 88 args).run Try.prog w = .ok (.enter 88 args) w := Go.Proofs.enters_of Try.func88 (by kernel_rfl) rfl
  have hp0 : w.cell? ⟨p, o, none⟩ = some (.slice none 0 0) := by rw [cellAt hp]; exact ho
  clear h hp hb ho
  go_enter Try.func87, Try.ntmps87
  go_wp2_with fail
  refine (count_r H.out (k := 0) (by decide) (by omega) hL hL2).mono ?_
  rintro e w1 ⟨q, rfl, hqn, hc1, at1, bad1, hrd1, heq1⟩
  have HQ := hid heq1
  have hd2 := hrd1.cells.2.2.1
  have H0 := hid (show Nums_At w B g A n c b p o tp cs (left b at1 bad1) 0 [] none 0 at1 bad1 w1 from ⟨rfl, by
    have e : cs.setIfInBounds o (.slice none 0 0) = cs := set_same HO.out
    rw [e]
    exact hc1.blk HP.out hpg, Vec.nil _ _ _ _ _, hc1.mono (fun _ h _ => .inl h), hrd1, by cases bad1 <;> simp [left, rdList]⟩)
  clear hc1 hrd1 heq1 hp0
  go_wp2_with fail
  clear hd2
  go_loopw [11] (fun i wr => ∃ (k : Nat) (us : List (Int)) (A' : Option Addr) (c' at' : Nat) (bad' : Bool), k ≤ q ∧ i = .int .i64 k ∧ Nums_At w B g A n c b p o tp cs (left b at1 bad1) k us A' c' at' bad' wr) (fun i _ => q - (intOf i).toNat)
  case atStart => exact ⟨0, [], none, 0, at1, bad1, Nat.zero_le _, rfl, H0.out⟩
  case round =>
    obtain ⟨k, us, A', c', at', bad', hk, rfl, hT⟩ := hrel
    have HT := hid hT
    have hd3 := hT.rd.cells.2.2.2
    clear hT
    by_cases hlt : k < q
    · have hlt2 : (k : Int) < (q : Int) := by omega
      cases bad' with
      | true =>
        clear eg
        go_wp2_with fail
        go_end0
        exact ⟨rfl, HT.out.done HQ.out hk hqn (.inr rfl)⟩
      | false =>
        go_wp2_with fail
        clear hd3
        have CB := hid (show Chg (fun _ => False) wr (wr.alloc (.cells ([Value.int .i64 0]).toArray 3)) from (Chg.refl _ wr).alloc _)
        have BB := hid (show (wr.alloc (.cells ([Value.int .i64 0]).toArray 3)).heap[wr.heap.size]? = some (.cells ([Value.int .i64 0]).toArray 3 (0, 0)) from blk_new wr _)
        refine (one_r (u := 0) (HT.out.rd.chg CB.out (fun _ h => h.elim) (fun h => h)) BB.out (by have := HT.out.chg.size; have := HPL.out; omega) (by have := HT.out.rd.lt; omega) (CB.out.cell (HT.out.chg.cell HBX.out (fun h => by rcases h with h | h; exact hbp.2 h; exact hbp.1 h)) (fun h => h)) (by decide) (by omega)).mono ?_
        rintro e w3 ⟨rfl, y, hyw, hyb, h3, at2, bad2, h5, h6⟩
        have H5 := hid h5
        have H6 := hid h6
        have HYB := hid hyb
        have HYW := hid hyw
        have HPB := hid (show p < wr.heap.size from Nat.lt_of_lt_of_le HPL.out HT.out.chg.size)
        have C3 := hid (show Chg (fun j => j = g ∨ j = wr.heap.size) wr w3 from (CB.out.mono (fun _ h _ => h.elim)).trans h3 (fun _ h _ => h))
        have HPC := hid (C3.out.blk HT.out.blk (fun e => by rcases e with e | e; exact hpg e; have := HPB.out; omega))
        have HOB := hid (show ∀ j, (Value.slice A' k c').ownBlock = some j → j ≠ wr.heap.size ∧ j ≠ p ∧ j ≠ g from fun j hj => ⟨by have := HT.out.vec.lt j hj; omega, by have := HT.out.vec.inS j hj; have := HPL.out; omega, fun e => HT.out.vec.ne HT.out.rd.blk (by decide) (e ▸ hj)⟩)
        have HV3 := hid (HT.out.vec.chg C3.out (fun j hj e => by rcases e with e | e; exact (HOB.out j hj).2.2 e; exact (HOB.out j hj).1 e) (fun j hj _ hl e => by
          rcases e with e | e
          · have := HGL.out; omega
          · omega))
        obtain ⟨M, hMM⟩ : ∃ M : Nat → Prop, ∀ i, M i ↔ (Value.slice A' k c').ownBlock = some i := ⟨_, fun _ => Iff.rfl⟩
        have MM := hid hMM
        have hcell0 : ∀ wx, Chg M w3 wx → wx.cell? ⟨p, o, none⟩ = some (.slice A' k c') := fun wx hx => hx.cell (by
          rw [cellAt HPC.out]
          have := Array.getElem?_eq_some_iff.1 HO.out
          obtain ⟨hl, _⟩ := this
          simp [hl]) (fun h => (HOB.out _ ((MM.out _).1 h)).2.1 rfl)
        have hy0 : ∀ wx, Chg M w3 wx → wx.cell? ⟨wr.heap.size, 0, none⟩ = some (.int .i64 y) := fun wx hx => hx.cell (by rw [cellAt HYB.out]; rfl) (fun h => (HOB.out _ ((MM.out _).1 h)).1 rfl)
        have HKL := hid HT.out.len
        have h4 := (fun (w' : World) (D : Nat → Prop) (_ : Chg (fun _ => False) w3 w') (hD : ∀ j, wr.heap.size < j → j < w3.heap.size → D j) => (Ty.Row.one_ ⟨rfl, HYW.out⟩ : Ty.Row (Ty.int .i64) w' D [y] [Value.int .i64 y]))
        have H4 := hid h4
        clear h4 hMM h3 h5 h6 hyb hyw
        go_wp2_with fail
        refine wpB_start (fun wx : World => Chg M w3 wx) (by kernel_rfl) ?_
        have hHeld : (fun wx : World => Chg M w3 wx) _ := (by first | assumption | exact Chg.drew (Chg.refl _ _) | (show _ ∧ _; refine ⟨?_, ?_⟩ <;> assumption) | (first | assumption | exact hHeld.alloc _ | exact hHeld.trans h2 (fun _ h _ => (MM.out _).2 h)))
        -- 0: t49 := move t1 : 145
        refine wpB_take (i := 0) (v := ?_) (get_of_drop rfl) (by kernel_rfl) (by kernel_rfl) (by kernel_rfl) (by kernel_rfl) (fun _ _ _ h => h) (Or.inl ⟨by rfl, ?_⟩) hHeld ?_
        rotate_left
        · (intro w hSw; (try dsimp only at hSw); go_simp <;> with_reducible rfl)
        try simp only [Act.put, List.setIfInBounds_toArray, List.set_cons_zero, List.set_cons_succ]
        -- 1: t50 := move t1 : 145
        refine wpB_take (i := 1) (v := ?_) (get_of_drop rfl) (by kernel_rfl) (by kernel_rfl) (by kernel_rfl) (by kernel_rfl) (fun _ _ _ h => h) (Or.inl ⟨by rfl, ?_⟩) hHeld ?_
        rotate_left
        · (intro w hSw; (try dsimp only at hSw); go_simp <;> with_reducible rfl)
        try simp only [Act.put, List.setIfInBounds_toArray, List.set_cons_zero, List.set_cons_succ]
        -- 2: t51 := nilCheck t50 : 0
        refine wpB_take (i := 2) (v := ?_) (get_of_drop rfl) (by kernel_rfl) (by kernel_rfl) (by kernel_rfl) (by kernel_rfl) (fun _ _ _ h => h) (Or.inl ⟨by rfl, ?_⟩) hHeld ?_
        rotate_left
        · (intro w hSw; (try dsimp only at hSw); go_simp <;> with_reducible rfl)
        try simp only [Act.put, List.setIfInBounds_toArray, List.set_cons_zero, List.set_cons_succ]
        -- 3: t52 := load 48 t51 : 48
        refine wpB_take (i := 3) (v := ?_) (get_of_drop rfl) (by kernel_rfl) (by kernel_rfl) (by kernel_rfl) (by kernel_rfl) (fun _ _ _ h => h) (Or.inl ⟨by rfl, ?_⟩) hHeld ?_
        rotate_left
        · (intro w hSw; (try dsimp only at hSw); go_simp <;> with_reducible rfl)
        try simp only [Act.put, List.setIfInBounds_toArray, List.set_cons_zero, List.set_cons_succ]
        -- 4: t53 := load 3 t12 : 3
        refine wpB_take (i := 4) (v := ?_) (get_of_drop rfl) (by kernel_rfl) (by kernel_rfl) (by kernel_rfl) (by kernel_rfl) (fun _ _ _ h => h) (Or.inl ⟨by rfl, ?_⟩) hHeld ?_
        rotate_left
        · (intro w hSw; (try dsimp only at hSw); go_simp <;> with_reducible rfl)
        try simp only [Act.put, List.setIfInBounds_toArray, List.set_cons_zero, List.set_cons_succ]
        -- 5: t54 := buildSlice 48 1 [⟨0, t53⟩] : 48
        refine wpB_act (i := 5) (by kernel_rfl) (get_of_drop rfl) (fun K hK => ?_)
        go_simp
        refine hK.out _ _ ?_ (fun hHeld2 => ?_)
        · (first | assumption | exact hHeld.alloc _ | exact hHeld.trans h2 (fun _ h _ => (MM.out _).2 h))
        clear hHeld hK K
        have hHeld := hHeld2
        clear hHeld2
        try simp only [Act.put, List.setIfInBounds_toArray, List.set_cons_zero, List.set_cons_succ]
        -- 6: t55 := append(t52, t54) types [48, 48] : 48
        refine wpB_act (i := 6) (by kernel_rfl) (get_of_drop rfl) (fun K hK => ?_)
        refine vec_step (d := (Ty.int .i64)) _ rfl (.tmp 52) (.tmp 54) 48 3 (.int .i64 0) 8 rfl Try.underlying48 infonums rfl (by decide) (by decide) (.slice A' k c') rfl ((HV3.out.chg ((((Chg.refl (fun _ => False) w3).alloc _)).drew) (fun _ _ h => h) (fun _ _ _ _ h => h))) (some ⟨w3.heap.size, 0, none⟩) 1 1 (ys := [y]) rfl (by simp) (by omega) rfl (lit_sees w3 ([Value.int .i64 y]).toArray 3) (H4.out _ _ (((Chg.refl (fun _ => False) w3).alloc _).drew) (fun j q1 q2 => ⟨Nat.le_trans HT.out.chg.size (Nat.le_of_lt q1), fun e' => Nat.lt_irrefl _ (Nat.lt_trans (HT.out.vec.lt j e') q1), Nat.lt_of_lt_of_le q2 (((Chg.refl (fun _ => False) w3).alloc _).drew).size⟩)) (by rw [HKL.out]; omega) ?_
        have HH := hid hHeld
        rw [HKL.out]
        intro A4 c4 w4 h1 h2
        have f0' : w4.frozen? ⟨p, o, none⟩ = false := freeAt ((HH.out.trans h2 (fun _ h _ => (MM.out _).2 h)).blk HPC.out (fun h => (HOB.out _ ((MM.out _).1 h)).2.1 rfl)) o
        have c0' : w4.cell? ⟨p, o, none⟩ = some (.slice A' k c') := hcell0 _ (HH.out.trans h2 (fun _ h _ => (MM.out _).2 h))
        refine hK.out _ _ ?_ (fun hHeld2 => ?_)
        · (first | assumption | exact hHeld.alloc _ | exact hHeld.trans h2 (fun _ h _ => (MM.out _).2 h))
        clear hHeld hK K
        have hHeld := hHeld2
        clear hHeld2
        try simp only [Act.put, List.setIfInBounds_toArray, List.set_cons_zero, List.set_cons_succ]
        -- 7: t56 := nilCheck t49 : 0
        refine wpB_take (i := 7) (v := ?_) (get_of_drop rfl) (by kernel_rfl) (by kernel_rfl) (by kernel_rfl) (by kernel_rfl) (fun _ _ _ h => h) (Or.inl ⟨by rfl, ?_⟩) hHeld ?_
        rotate_left
        · (intro w hSw; (try dsimp only at hSw); go_simp <;> with_reducible rfl)
        try simp only [Act.put, List.setIfInBounds_toArray, List.set_cons_zero, List.set_cons_succ]
        -- 8: t- := store 48 t56 t55 : 0 (BARRIER)
        refine wpB_bar (i := 8) (by kernel_rfl) (get_of_drop rfl) (by kernel_rfl) (fun K hK => ?_)
        go_simp
        refine hK.out _ _ (fun _ : World => True) ?_
        clear hHeld hK K
        have hHeld := trivial
        try simp only [Act.put, List.setIfInBounds_toArray, List.set_cons_zero, List.set_cons_succ]
        refine wpB_done (by kernel_rfl) ?_ _
        have HN := hid (HT.out.step (w4 := w4) (A4 := A4) (c4 := c4) hpg (Nat.le_refl _) C3.out H5.out H6.out ⟨hpB, HPL.out⟩ (h1.mono (fun k h _ => by rcases h with h | h; exact h; exact Nat.le_trans (Nat.le_trans HT.out.chg.size C3.out.size) (Nat.le_trans (((Chg.refl (fun _ => False) w3).alloc _).drew).size h)) (fun k h _ => h)) (((Chg.refl (fun j => (Value.slice A' k c').ownBlock = some j) w3).alloc _).drew.trans h2 (fun _ h _ => h)))
        clear h1 h2 hHeld hcell0 f0' c0'
        go_wp2_with fail
        go_roundw
        case measure => simp [intOf]; omega
        case rel => first | exact ⟨k + 1, _, _, _, _, _, hlt, by go_num, HN.out⟩ | ((repeat apply Exists.intro); exact ⟨⟨k + 1, _, _, _, _, _, hlt, by go_num, HN.out⟩, rfl⟩)
    · clear eg
      have hkq : ¬ (k : Int) < (q : Int) := by omega
      go_wp2_with fail
      go_end0
      exact ⟨rfl, HT.out.done HQ.out hk hqn (.inl (by omega))⟩
end Go.Proofs.Ytfpjickdkkhndaa.Pa


/- The contracts of the codec's entry. -/

namespace Go.Proofs.Ytfpjickdkkhndaa.Pa

set_option linter.unusedVariables false

set_option linter.unusedSimpArgs false

open Go.RowKit Go.Proofs.Ytfpjickdkkhndaa.C

attribute [local go_sem] max2_int min2_int max_two min_two

/-- What an entry may be that is written. -/
structure EntryOk (e : Entry) : Prop where
  nums : ∀ u ∈ e.nums, NumOk u
  put : ∀ r ∈ e.put, RuleOk r
  drop : ∀ u ∈ e.drop, NumOk u
  putl : e.put.length ≤ 100
  dropl : e.drop.length ≤ 100
theorem entryB_eq (e : Entry) : entryB e = e.nums.flatMap num ++ num e.put.length ++ e.put.flatMap ruleB ++ num e.drop.length ++ e.drop.flatMap num := by
  simp [entryB, Entry.nums]
theorem entryB_len {e : Entry} (h : EntryOk e) : (entryB e).length ≤ 110000 := by
  have h1 := rules_len h.put e.put.length
  have h2 := nums_len h.drop e.drop.length
  rw [List.take_length] at h1 h2
  rw [entryB_eq]
  simp only [List.length_append, num_len]
  have h3 : (e.nums.flatMap num).length = 42 := by rw [flatMap_num_len]; rfl
  have h4 := h.putl
  have h5 := h.dropl
  omega

set_option maxHeartbeats 4000000 in
set_option maxRecDepth 100000 in
theorem entry_w {w : World} {S R : Nat → Prop} {g p tp : Nat} {v : Value} {x : List UInt8} {e : Entry} {A1 : Option Addr} {n1 c1 : Nat} {A2 : Option Addr} {n2 c2 : Nat} (h : Wr w S g v x) (hp : w.heap[p]? = some (.cells (entryCells e A1 n1 c1 A2 n2 c2).toArray tp (0, 0))) (hpS : ¬ S p)
    (he : EntryAt w R e A1 n1 c1 A2 n2 c2) (hR : ∀ k, R k → ¬ S k) (hok : EntryOk e) (hx : x.length ≤ 500000000) :
    Calls Try.prog 77 #[.pointer (some ⟨g, 0, none⟩), .pointer (some ⟨p, 0, none⟩)] w fun e' w' => e' = .returned (.tuple #[]) ∧ WrTo S g (x ++ entryB e) w w' := by
  have HB := hid h.bound
  have HP := hid hp
  have HPL := hid (lt_of_blk hp)
  have HE1 := hid he.2.1.bound
  have HE2 := hid he.2.2.bound
  have HR := hid hR
  have HOK := hid hok
  obtain ⟨wb, hwb⟩ : ∃ wb, wb = w.alloc (.cells #[.pointer (some ⟨g, 0, none⟩)] 105) := ⟨_, rfl⟩
  have CB := hid (show Chg (fun _ => False) w wb by rw [hwb]; exact (Chg.refl _ w).alloc _)
  have BB := hid (show wb.heap[w.heap.size]? = some (.cells #[.pointer (some ⟨g, 0, none⟩)] 105 (0, 0)) by rw [hwb]; exact blk_new w _)
  have BL := hid (show w.heap.size < wb.heap.size from lt_of_blk BB.out)
  have hbx : wb.cell? ⟨w.heap.size, 0, none⟩ = some (.pointer (some ⟨g, 0, none⟩)) := by rw [cellAt BB.out]; rfl
  clear h hp hok he hR
  go_enter Try.func77, Try.ntmps77
  go_wp2_with fail
  rw [← hwb]
  clear hwb
  refine wpB_start (fun wx : World => wx.cell? ⟨w.heap.size, 0, none⟩ = some (.pointer (some ⟨g, 0, none⟩))) (by kernel_rfl) ?_
  have hHeld : (fun wx : World => wx.cell? ⟨w.heap.size, 0, none⟩ = some (.pointer (some ⟨g, 0, none⟩))) _ := (by first | assumption | exact Chg.drew (Chg.refl _ _) | (show _ ∧ _; refine ⟨?_, ?_⟩ <;> assumption) | first | assumption | exact hbx | exact ((Chg.refl (fun _ => False) wb).alloc _).drew.cell hbx (fun h => h))
  -- 0: t4 := load 105 t2 : 105
  refine wpB_take (i := 0) (v := ?_) (get_of_drop rfl) (by kernel_rfl) (by kernel_rfl) (by kernel_rfl) (by kernel_rfl) (fun _ _ _ h => h) (Or.inl ⟨by rfl, ?_⟩) hHeld ?_
  rotate_left
  · (intro w hSw; (try dsimp only at hSw); go_simp <;> with_reducible rfl)
  try simp only [Act.put, List.setIfInBounds_toArray, List.set_cons_zero, List.set_cons_succ]
  -- 1: t5 := move t1 : 140
  refine wpB_take (i := 1) (v := ?_) (get_of_drop rfl) (by kernel_rfl) (by kernel_rfl) (by kernel_rfl) (by kernel_rfl) (fun _ _ _ h => h) (Or.inl ⟨by rfl, ?_⟩) hHeld ?_
  rotate_left
  · (intro w hSw; (try dsimp only at hSw); go_simp <;> with_reducible rfl)
  try simp only [Act.put, List.setIfInBounds_toArray, List.set_cons_zero, List.set_cons_succ]
  -- 2: t6 := nilCheck t5 : 0
  refine wpB_take (i := 2) (v := ?_) (get_of_drop rfl) (by kernel_rfl) (by kernel_rfl) (by kernel_rfl) (by kernel_rfl) (fun _ _ _ h => h) (Or.inl ⟨by rfl, ?_⟩) hHeld ?_
  rotate_left
  · (intro w hSw; (try dsimp only at hSw); go_simp <;> with_reducible rfl)
  try simp only [Act.put, List.setIfInBounds_toArray, List.set_cons_zero, List.set_cons_succ]
  -- 3: t7 := fieldAddr 52 t6 0 : 0
  refine wpB_take (i := 3) (v := ?_) (get_of_drop rfl) (by kernel_rfl) (by kernel_rfl) (by kernel_rfl) (by kernel_rfl) (fun _ _ _ h => h) (Or.inl ⟨by rfl, ?_⟩) hHeld ?_
  rotate_left
  · (intro w hSw; (try dsimp only at hSw); go_simp <;> with_reducible rfl)
  try simp only [Act.put, List.setIfInBounds_toArray, List.set_cons_zero, List.set_cons_succ]
  -- 4: t8 := move t1 : 140
  refine wpB_take (i := 4) (v := ?_) (get_of_drop rfl) (by kernel_rfl) (by kernel_rfl) (by kernel_rfl) (by kernel_rfl) (fun _ _ _ h => h) (Or.inl ⟨by rfl, ?_⟩) hHeld ?_
  rotate_left
  · (intro w hSw; (try dsimp only at hSw); go_simp <;> with_reducible rfl)
  try simp only [Act.put, List.setIfInBounds_toArray, List.set_cons_zero, List.set_cons_succ]
  -- 5: t9 := nilCheck t8 : 0
  refine wpB_take (i := 5) (v := ?_) (get_of_drop rfl) (by kernel_rfl) (by kernel_rfl) (by kernel_rfl) (by kernel_rfl) (fun _ _ _ h => h) (Or.inl ⟨by rfl, ?_⟩) hHeld ?_
  rotate_left
  · (intro w hSw; (try dsimp only at hSw); go_simp <;> with_reducible rfl)
  try simp only [Act.put, List.setIfInBounds_toArray, List.set_cons_zero, List.set_cons_succ]
  -- 6: t10 := fieldAddr 52 t9 1 : 0
  refine wpB_take (i := 6) (v := ?_) (get_of_drop rfl) (by kernel_rfl) (by kernel_rfl) (by kernel_rfl) (by kernel_rfl) (fun _ _ _ h => h) (Or.inl ⟨by rfl, ?_⟩) hHeld ?_
  rotate_left
  · (intro w hSw; (try dsimp only at hSw); go_simp <;> with_reducible rfl)
  try simp only [Act.put, List.setIfInBounds_toArray, List.set_cons_zero, List.set_cons_succ]
  -- 7: t11 := move t1 : 140
  refine wpB_take (i := 7) (v := ?_) (get_of_drop rfl) (by kernel_rfl) (by kernel_rfl) (by kernel_rfl) (by kernel_rfl) (fun _ _ _ h => h) (Or.inl ⟨by rfl, ?_⟩) hHeld ?_
  rotate_left
  · (intro w hSw; (try dsimp only at hSw); go_simp <;> with_reducible rfl)
  try simp only [Act.put, List.setIfInBounds_toArray, List.set_cons_zero, List.set_cons_succ]
  -- 8: t12 := nilCheck t11 : 0
  refine wpB_take (i := 8) (v := ?_) (get_of_drop rfl) (by kernel_rfl) (by kernel_rfl) (by kernel_rfl) (by kernel_rfl) (fun _ _ _ h => h) (Or.inl ⟨by rfl, ?_⟩) hHeld ?_
  rotate_left
  · (intro w hSw; (try dsimp only at hSw); go_simp <;> with_reducible rfl)
  try simp only [Act.put, List.setIfInBounds_toArray, List.set_cons_zero, List.set_cons_succ]
  -- 9: t13 := fieldAddr 52 t12 2 : 0
  refine wpB_take (i := 9) (v := ?_) (get_of_drop rfl) (by kernel_rfl) (by kernel_rfl) (by kernel_rfl) (by kernel_rfl) (fun _ _ _ h => h) (Or.inl ⟨by rfl, ?_⟩) hHeld ?_
  rotate_left
  · (intro w hSw; (try dsimp only at hSw); go_simp <;> with_reducible rfl)
  try simp only [Act.put, List.setIfInBounds_toArray, List.set_cons_zero, List.set_cons_succ]
  -- 10: t14 := move t1 : 140
  refine wpB_take (i := 10) (v := ?_) (get_of_drop rfl) (by kernel_rfl) (by kernel_rfl) (by kernel_rfl) (by kernel_rfl) (fun _ _ _ h => h) (Or.inl ⟨by rfl, ?_⟩) hHeld ?_
  rotate_left
  · (intro w hSw; (try dsimp only at hSw); go_simp <;> with_reducible rfl)
  try simp only [Act.put, List.setIfInBounds_toArray, List.set_cons_zero, List.set_cons_succ]
  -- 11: t15 := nilCheck t14 : 0
  refine wpB_take (i := 11) (v := ?_) (get_of_drop rfl) (by kernel_rfl) (by kernel_rfl) (by kernel_rfl) (by kernel_rfl) (fun _ _ _ h => h) (Or.inl ⟨by rfl, ?_⟩) hHeld ?_
  rotate_left
  · (intro w hSw; (try dsimp only at hSw); go_simp <;> with_reducible rfl)
  try simp only [Act.put, List.setIfInBounds_toArray, List.set_cons_zero, List.set_cons_succ]
  -- 12: t16 := fieldAddr 52 t15 3 : 0
  refine wpB_take (i := 12) (v := ?_) (get_of_drop rfl) (by kernel_rfl) (by kernel_rfl) (by kernel_rfl) (by kernel_rfl) (fun _ _ _ h => h) (Or.inl ⟨by rfl, ?_⟩) hHeld ?_
  rotate_left
  · (intro w hSw; (try dsimp only at hSw); go_simp <;> with_reducible rfl)
  try simp only [Act.put, List.setIfInBounds_toArray, List.set_cons_zero, List.set_cons_succ]
  -- 13: t17 := fieldAddr 50 t16 0 : 0
  refine wpB_take (i := 13) (v := ?_) (get_of_drop rfl) (by kernel_rfl) (by kernel_rfl) (by kernel_rfl) (by kernel_rfl) (fun _ _ _ h => h) (Or.inl ⟨by rfl, ?_⟩) hHeld ?_
  rotate_left
  · (intro w hSw; (try dsimp only at hSw); go_simp <;> with_reducible rfl)
  try simp only [Act.put, List.setIfInBounds_toArray, List.set_cons_zero, List.set_cons_succ]
  -- 14: t18 := move t1 : 140
  refine wpB_take (i := 14) (v := ?_) (get_of_drop rfl) (by kernel_rfl) (by kernel_rfl) (by kernel_rfl) (by kernel_rfl) (fun _ _ _ h => h) (Or.inl ⟨by rfl, ?_⟩) hHeld ?_
  rotate_left
  · (intro w hSw; (try dsimp only at hSw); go_simp <;> with_reducible rfl)
  try simp only [Act.put, List.setIfInBounds_toArray, List.set_cons_zero, List.set_cons_succ]
  -- 15: t19 := nilCheck t18 : 0
  refine wpB_take (i := 15) (v := ?_) (get_of_drop rfl) (by kernel_rfl) (by kernel_rfl) (by kernel_rfl) (by kernel_rfl) (fun _ _ _ h => h) (Or.inl ⟨by rfl, ?_⟩) hHeld ?_
  rotate_left
  · (intro w hSw; (try dsimp only at hSw); go_simp <;> with_reducible rfl)
  try simp only [Act.put, List.setIfInBounds_toArray, List.set_cons_zero, List.set_cons_succ]
  -- 16: t20 := fieldAddr 52 t19 3 : 0
  refine wpB_take (i := 16) (v := ?_) (get_of_drop rfl) (by kernel_rfl) (by kernel_rfl) (by kernel_rfl) (by kernel_rfl) (fun _ _ _ h => h) (Or.inl ⟨by rfl, ?_⟩) hHeld ?_
  rotate_left
  · (intro w hSw; (try dsimp only at hSw); go_simp <;> with_reducible rfl)
  try simp only [Act.put, List.setIfInBounds_toArray, List.set_cons_zero, List.set_cons_succ]
  -- 17: t21 := fieldAddr 50 t20 1 : 0
  refine wpB_take (i := 17) (v := ?_) (get_of_drop rfl) (by kernel_rfl) (by kernel_rfl) (by kernel_rfl) (by kernel_rfl) (fun _ _ _ h => h) (Or.inl ⟨by rfl, ?_⟩) hHeld ?_
  rotate_left
  · (intro w hSw; (try dsimp only at hSw); go_simp <;> with_reducible rfl)
  try simp only [Act.put, List.setIfInBounds_toArray, List.set_cons_zero, List.set_cons_succ]
  -- 18: t22 := move t1 : 140
  refine wpB_take (i := 18) (v := ?_) (get_of_drop rfl) (by kernel_rfl) (by kernel_rfl) (by kernel_rfl) (by kernel_rfl) (fun _ _ _ h => h) (Or.inl ⟨by rfl, ?_⟩) hHeld ?_
  rotate_left
  · (intro w hSw; (try dsimp only at hSw); go_simp <;> with_reducible rfl)
  try simp only [Act.put, List.setIfInBounds_toArray, List.set_cons_zero, List.set_cons_succ]
  -- 19: t23 := nilCheck t22 : 0
  refine wpB_take (i := 19) (v := ?_) (get_of_drop rfl) (by kernel_rfl) (by kernel_rfl) (by kernel_rfl) (by kernel_rfl) (fun _ _ _ h => h) (Or.inl ⟨by rfl, ?_⟩) hHeld ?_
  rotate_left
  · (intro w hSw; (try dsimp only at hSw); go_simp <;> with_reducible rfl)
  try simp only [Act.put, List.setIfInBounds_toArray, List.set_cons_zero, List.set_cons_succ]
  -- 20: t24 := fieldAddr 52 t23 3 : 0
  refine wpB_take (i := 20) (v := ?_) (get_of_drop rfl) (by kernel_rfl) (by kernel_rfl) (by kernel_rfl) (by kernel_rfl) (fun _ _ _ h => h) (Or.inl ⟨by rfl, ?_⟩) hHeld ?_
  rotate_left
  · (intro w hSw; (try dsimp only at hSw); go_simp <;> with_reducible rfl)
  try simp only [Act.put, List.setIfInBounds_toArray, List.set_cons_zero, List.set_cons_succ]
  -- 21: t25 := fieldAddr 50 t24 2 : 0
  refine wpB_take (i := 21) (v := ?_) (get_of_drop rfl) (by kernel_rfl) (by kernel_rfl) (by kernel_rfl) (by kernel_rfl) (fun _ _ _ h => h) (Or.inl ⟨by rfl, ?_⟩) hHeld ?_
  rotate_left
  · (intro w hSw; (try dsimp only at hSw); go_simp <;> with_reducible rfl)
  try simp only [Act.put, List.setIfInBounds_toArray, List.set_cons_zero, List.set_cons_succ]
  -- 22: t26 := move t1 : 140
  refine wpB_take (i := 22) (v := ?_) (get_of_drop rfl) (by kernel_rfl) (by kernel_rfl) (by kernel_rfl) (by kernel_rfl) (fun _ _ _ h => h) (Or.inl ⟨by rfl, ?_⟩) hHeld ?_
  rotate_left
  · (intro w hSw; (try dsimp only at hSw); go_simp <;> with_reducible rfl)
  try simp only [Act.put, List.setIfInBounds_toArray, List.set_cons_zero, List.set_cons_succ]
  -- 23: t27 := nilCheck t26 : 0
  refine wpB_take (i := 23) (v := ?_) (get_of_drop rfl) (by kernel_rfl) (by kernel_rfl) (by kernel_rfl) (by kernel_rfl) (fun _ _ _ h => h) (Or.inl ⟨by rfl, ?_⟩) hHeld ?_
  rotate_left
  · (intro w hSw; (try dsimp only at hSw); go_simp <;> with_reducible rfl)
  try simp only [Act.put, List.setIfInBounds_toArray, List.set_cons_zero, List.set_cons_succ]
  -- 24: t28 := fieldAddr 52 t27 3 : 0
  refine wpB_take (i := 24) (v := ?_) (get_of_drop rfl) (by kernel_rfl) (by kernel_rfl) (by kernel_rfl) (by kernel_rfl) (fun _ _ _ h => h) (Or.inl ⟨by rfl, ?_⟩) hHeld ?_
  rotate_left
  · (intro w hSw; (try dsimp only at hSw); go_simp <;> with_reducible rfl)
  try simp only [Act.put, List.setIfInBounds_toArray, List.set_cons_zero, List.set_cons_succ]
  -- 25: t29 := fieldAddr 50 t28 3 : 0
  refine wpB_take (i := 25) (v := ?_) (get_of_drop rfl) (by kernel_rfl) (by kernel_rfl) (by kernel_rfl) (by kernel_rfl) (fun _ _ _ h => h) (Or.inl ⟨by rfl, ?_⟩) hHeld ?_
  rotate_left
  · (intro w hSw; (try dsimp only at hSw); go_simp <;> with_reducible rfl)
  try simp only [Act.put, List.setIfInBounds_toArray, List.set_cons_zero, List.set_cons_succ]
  -- 26: t30 := buildSlice 138 7 [⟨0, t7⟩, ⟨1, t10⟩, ⟨2, t13⟩, ⟨3, t17⟩, ⟨4, t21⟩, ⟨5, t25⟩, ⟨6, t29⟩] : 138
  refine wpB_act (i := 26) (by kernel_rfl) (get_of_drop rfl) (fun K hK => ?_)
  go_simp
  refine hK.out _ _ ?_ (fun hHeld2 => ?_)
  · first | assumption | exact hbx | exact ((Chg.refl (fun _ => False) wb).alloc _).drew.cell hbx (fun h => h)
  clear hHeld hK K
  have hHeld := hHeld2
  clear hHeld2
  try simp only [Act.put, List.setIfInBounds_toArray, List.set_cons_zero, List.set_cons_succ]
  -- 27: t31 := CALL fn75(t4, t30) : 0
  refine wpB_act (i := 27) (by kernel_rfl) (get_of_drop rfl) (fun K hK => ?_)
  go_simp
  have CC := hid (show Chg (fun _ => False) w (wb.alloc (.cells (ptrs p 7).toArray 130)).drew from (CB.out.alloc _).drew)
  refine (num_w (S := fun k => S k ∧ k < w.heap.size) (vs := e.nums) (p := p) (R := fun k => k = wb.heap.size) (HB.out.chg CC.out (fun _ _ h => h)) (lit_sees wb (ptrs p 7).toArray 130) (fun k hk hs => by have := hs.2; have := BL.out; omega) (fun i u hi => by
    rw [cellAt (CC.out.blk HP.out (fun h => h))]
    exact ints_at hi _) (fun hs => hpS hs.1) (fun u hu => HOK.out.nums u hu) (by omega) (by show 7 ≤ 7; omega)).mono ?_
  rintro e' w1 ⟨rfl, h1⟩
  have HT := hid (WrTo.pre (w := wb) (S := fun k => S k ∧ k < w.heap.size) ((Chg.refl _ wb).alloc _).drew h1 (fun k hk => .inl hk))
  have hb1 : w1.cell? ⟨w.heap.size, 0, none⟩ = some (.pointer (some ⟨g, 0, none⟩)) := (by obtain ⟨v1, _, hc⟩ := h1; exact hc.cell (((Chg.refl (fun _ => False) wb).alloc _).drew.cell hbx (fun h => h)) (fun hs => Nat.lt_irrefl _ hs.2))
  clear h1
  refine hK.out _ _ ?_ (fun hHeld2 => ?_)
  · first | assumption | exact hbx | exact ((Chg.refl (fun _ => False) wb).alloc _).drew.cell hbx (fun h => h)
  clear hHeld hK K
  have hHeld := hHeld2
  clear hHeld2
  try simp only [Act.put, List.setIfInBounds_toArray, List.set_cons_zero, List.set_cons_succ]
  refine wpB_done (by kernel_rfl) ?_ _
  clear hHeld
  have HN1 := hid HE1.out.1
  have HN2 := hid HE2.out.1
  have HFAR := hid (show ∀ (W : World) k, k < wb.heap.size → (k < w.heap.size → ¬ S k) → ¬ (((S k ∧ k < w.heap.size) ∨ wb.heap.size ≤ k) ∧ k < W.heap.size) from fun W k h1 h2 h3 => by
    rcases h3.1 with q | q
    · exact h2 q.2 q.1
    · omega)
  obtain ⟨v1, hv1, hc1⟩ := HT.out
  have H1 := hid hv1.bound
  have HBX1 := hid hb1
  have HC1 := hid (show Chg (fun k => S k ∧ k < w.heap.size) w w1 from (CB.out.mono (fun _ h _ => h.elim)).trans hc1 (fun _ h _ => h))
  clear hv1 hc1
  have HP1 := hid (HC1.out.blk HP.out (fun h => hpS h.1))
  have HQ1 := hid (HE1.out.chg HC1.out (fun k hk h => HR.out k hk.1 h.1))
  have hnl : (e.nums.flatMap num).length = 42 := by rw [flatMap_num_len]; rfl
  have HNL := hid hnl
  clear hnl
  go_wp2_with fail
  refine wpB_start (fun wx : World => wx.cell? ⟨w.heap.size, 0, none⟩ = some (.pointer (some ⟨g, 0, none⟩))) (by kernel_rfl) ?_
  have hHeld : (fun wx : World => wx.cell? ⟨w.heap.size, 0, none⟩ = some (.pointer (some ⟨g, 0, none⟩))) _ := (by first | assumption | exact Chg.drew (Chg.refl _ _) | (show _ ∧ _; refine ⟨?_, ?_⟩ <;> assumption) | first | assumption | exact hb1)
  -- 0: t32 := load 105 t2 : 105
  refine wpB_take (i := 0) (v := ?_) (get_of_drop rfl) (by kernel_rfl) (by kernel_rfl) (by kernel_rfl) (by kernel_rfl) (fun _ _ _ h => h) (Or.inl ⟨by rfl, ?_⟩) hHeld ?_
  rotate_left
  · (intro w hSw; (try dsimp only at hSw); go_simp <;> with_reducible rfl)
  try simp only [Act.put, List.setIfInBounds_toArray, List.set_cons_zero, List.set_cons_succ]
  -- 1: t33 := move t1 : 140
  refine wpB_take (i := 1) (v := ?_) (get_of_drop rfl) (by kernel_rfl) (by kernel_rfl) (by kernel_rfl) (by kernel_rfl) (fun _ _ _ h => h) (Or.inl ⟨by rfl, ?_⟩) hHeld ?_
  rotate_left
  · (intro w hSw; (try dsimp only at hSw); go_simp <;> with_reducible rfl)
  try simp only [Act.put, List.setIfInBounds_toArray, List.set_cons_zero, List.set_cons_succ]
  -- 2: t34 := nilCheck t33 : 0
  refine wpB_take (i := 2) (v := ?_) (get_of_drop rfl) (by kernel_rfl) (by kernel_rfl) (by kernel_rfl) (by kernel_rfl) (fun _ _ _ h => h) (Or.inl ⟨by rfl, ?_⟩) hHeld ?_
  rotate_left
  · (intro w hSw; (try dsimp only at hSw); go_simp <;> with_reducible rfl)
  try simp only [Act.put, List.setIfInBounds_toArray, List.set_cons_zero, List.set_cons_succ]
  -- 3: t35 := fieldAddr 52 t34 3 : 0
  refine wpB_take (i := 3) (v := ?_) (get_of_drop rfl) (by kernel_rfl) (by kernel_rfl) (by kernel_rfl) (by kernel_rfl) (fun _ _ _ h => h) (Or.inl ⟨by rfl, ?_⟩) hHeld ?_
  rotate_left
  · (intro w hSw; (try dsimp only at hSw); go_simp <;> with_reducible rfl)
  try simp only [Act.put, List.setIfInBounds_toArray, List.set_cons_zero, List.set_cons_succ]
  -- 4: t36 := fieldAddr 50 t35 4 : 0
  refine wpB_take (i := 4) (v := ?_) (get_of_drop rfl) (by kernel_rfl) (by kernel_rfl) (by kernel_rfl) (by kernel_rfl) (fun _ _ _ h => h) (Or.inl ⟨by rfl, ?_⟩) hHeld ?_
  rotate_left
  · (intro w hSw; (try dsimp only at hSw); go_simp <;> with_reducible rfl)
  try simp only [Act.put, List.setIfInBounds_toArray, List.set_cons_zero, List.set_cons_succ]
  -- 5: t37 := load 105 t2 : 105
  refine wpB_take (i := 5) (v := ?_) (get_of_drop rfl) (by kernel_rfl) (by kernel_rfl) (by kernel_rfl) (by kernel_rfl) (fun _ _ _ h => h) (Or.inl ⟨by rfl, ?_⟩) hHeld ?_
  rotate_left
  · (intro w hSw; (try dsimp only at hSw); go_simp <;> with_reducible rfl)
  try simp only [Act.put, List.setIfInBounds_toArray, List.set_cons_zero, List.set_cons_succ]
  -- 6: t38 := makeFunc Fn.func(86) [t37] [] : 143
  refine wpB_take (i := 6) (v := ?_) (get_of_drop rfl) (by kernel_rfl) (by kernel_rfl) (by kernel_rfl) (by kernel_rfl) (fun _ _ _ h => h) (Or.inl ⟨by rfl, ?_⟩) hHeld ?_
  rotate_left
  · (intro w hSw; (try dsimp only at hSw); go_simp <;> with_reducible rfl)
  try simp only [Act.put, List.setIfInBounds_toArray, List.set_cons_zero, List.set_cons_succ]
  -- 7: t39 := CALL fn85(t32, t36, #i64:30, t38) : 0
  refine wpB_act (i := 7) (by kernel_rfl) (get_of_drop rfl) (fun K hK => ?_)
  go_simp
  have CC := hid (show Chg (fun _ => False) w1 w1.drew from (Chg.refl _ w1).drew)
  refine (rules_w (o := 7) (bx := w.heap.size) (H1.out.chg CC.out (fun _ _ h => h)) (CC.out.cell (by rw [cellAt HP1.out]; rfl) (fun h => h)) (HFAR.out _ _ (by have := HPL.out; have := BL.out; omega) (fun _ => hpS)) (HQ1.out.chg CC.out (fun _ _ h => h)) (fun k hk => HFAR.out _ _ (by have := hk.2; have := BL.out; omega) (fun _ => HR.out k hk.1)) (CC.out.cell HBX1.out (fun h => h)) (HFAR.out _ _ BL.out (fun h => absurd h (Nat.lt_irrefl _))) HOK.out.put (by rw [HN1.out]; exact HOK.out.putl) (by rw [List.length_append, HNL.out]; omega) 30).mono ?_
  rintro e' w2 ⟨rfl, h2⟩
  have HT2 := hid (HT.out.trans (WrTo.pre (S := fun k => (S k ∧ k < w.heap.size) ∨ wb.heap.size ≤ k) CC.out h2 (fun k hk => .inl hk.1)))
  have hb2 : w2.cell? ⟨w.heap.size, 0, none⟩ = some (.pointer (some ⟨g, 0, none⟩)) := (by obtain ⟨v2, _, hc⟩ := h2; exact hc.cell (CC.out.cell hb1 (fun h => h)) (HFAR.out _ _ BL.out (fun h => absurd h (Nat.lt_irrefl _))))
  clear h2
  refine hK.out _ _ ?_ (fun hHeld2 => ?_)
  · first | assumption | exact hb1
  clear hHeld hK K
  have hHeld := hHeld2
  clear hHeld2
  try simp only [Act.put, List.setIfInBounds_toArray, List.set_cons_zero, List.set_cons_succ]
  refine wpB_done (by kernel_rfl) ?_ _
  clear hHeld hb1 HBX1
  obtain ⟨v2, hv2, hc2⟩ := HT2.out
  have H2 := hid hv2.bound
  have HBX2 := hid hb2
  have HC2 := hid (show Chg (fun k => S k ∧ k < w.heap.size) w w2 from (CB.out.mono (fun _ h _ => h.elim)).trans hc2 (fun _ h _ => h))
  clear hv2 hc2
  have HP2 := hid (HC2.out.blk HP.out (fun h => hpS h.1))
  have HQ2 := hid (HE2.out.chg HC2.out (fun k hk h => HR.out k hk.1 h.1))
  have hrl := rules_len HOK.out.put e.put.length
  rw [List.take_length] at hrl
  have HRL := hid hrl
  clear hrl
  go_wp2_with fail
  refine wpB_start (fun wx : World => wx.cell? ⟨w.heap.size, 0, none⟩ = some (.pointer (some ⟨g, 0, none⟩))) (by kernel_rfl) ?_
  have hHeld : (fun wx : World => wx.cell? ⟨w.heap.size, 0, none⟩ = some (.pointer (some ⟨g, 0, none⟩))) _ := (by first | assumption | exact Chg.drew (Chg.refl _ _) | (show _ ∧ _; refine ⟨?_, ?_⟩ <;> assumption) | first | assumption | exact hb2)
  -- 0: t40 := load 105 t2 : 105
  refine wpB_take (i := 0) (v := ?_) (get_of_drop rfl) (by kernel_rfl) (by kernel_rfl) (by kernel_rfl) (by kernel_rfl) (fun _ _ _ h => h) (Or.inl ⟨by rfl, ?_⟩) hHeld ?_
  rotate_left
  · (intro w hSw; (try dsimp only at hSw); go_simp <;> with_reducible rfl)
  try simp only [Act.put, List.setIfInBounds_toArray, List.set_cons_zero, List.set_cons_succ]
  -- 1: t41 := move t1 : 140
  refine wpB_take (i := 1) (v := ?_) (get_of_drop rfl) (by kernel_rfl) (by kernel_rfl) (by kernel_rfl) (by kernel_rfl) (fun _ _ _ h => h) (Or.inl ⟨by rfl, ?_⟩) hHeld ?_
  rotate_left
  · (intro w hSw; (try dsimp only at hSw); go_simp <;> with_reducible rfl)
  try simp only [Act.put, List.setIfInBounds_toArray, List.set_cons_zero, List.set_cons_succ]
  -- 2: t42 := nilCheck t41 : 0
  refine wpB_take (i := 2) (v := ?_) (get_of_drop rfl) (by kernel_rfl) (by kernel_rfl) (by kernel_rfl) (by kernel_rfl) (fun _ _ _ h => h) (Or.inl ⟨by rfl, ?_⟩) hHeld ?_
  rotate_left
  · (intro w hSw; (try dsimp only at hSw); go_simp <;> with_reducible rfl)
  try simp only [Act.put, List.setIfInBounds_toArray, List.set_cons_zero, List.set_cons_succ]
  -- 3: t43 := fieldAddr 52 t42 3 : 0
  refine wpB_take (i := 3) (v := ?_) (get_of_drop rfl) (by kernel_rfl) (by kernel_rfl) (by kernel_rfl) (by kernel_rfl) (fun _ _ _ h => h) (Or.inl ⟨by rfl, ?_⟩) hHeld ?_
  rotate_left
  · (intro w hSw; (try dsimp only at hSw); go_simp <;> with_reducible rfl)
  try simp only [Act.put, List.setIfInBounds_toArray, List.set_cons_zero, List.set_cons_succ]
  -- 4: t44 := fieldAddr 50 t43 5 : 0
  refine wpB_take (i := 4) (v := ?_) (get_of_drop rfl) (by kernel_rfl) (by kernel_rfl) (by kernel_rfl) (by kernel_rfl) (fun _ _ _ h => h) (Or.inl ⟨by rfl, ?_⟩) hHeld ?_
  rotate_left
  · (intro w hSw; (try dsimp only at hSw); go_simp <;> with_reducible rfl)
  try simp only [Act.put, List.setIfInBounds_toArray, List.set_cons_zero, List.set_cons_succ]
  -- 5: t45 := makeFunc Fn.func(88) [] [t2] : 146
  refine wpB_take (i := 5) (v := ?_) (get_of_drop rfl) (by kernel_rfl) (by kernel_rfl) (by kernel_rfl) (by kernel_rfl) (fun _ _ _ h => h) (Or.inl ⟨by rfl, ?_⟩) hHeld ?_
  rotate_left
  · (intro w hSw; (try dsimp only at hSw); go_simp <;> with_reducible rfl)
  try simp only [Act.put, List.setIfInBounds_toArray, List.set_cons_zero, List.set_cons_succ]
  -- 6: t46 := CALL fn87(t40, t44, #i64:6, t45) : 0
  refine wpB_act (i := 6) (by kernel_rfl) (get_of_drop rfl) (fun K hK => ?_)
  go_simp
  have CC := hid (show Chg (fun _ => False) w2 w2.drew from (Chg.refl _ w2).drew)
  refine (nums_w (o := 8) (bx := w.heap.size) (H2.out.chg CC.out (fun _ _ h => h)) (CC.out.cell (by rw [cellAt HP2.out]; rfl) (fun h => h)) (HFAR.out _ _ (by have := HPL.out; have := BL.out; omega) (fun _ => hpS)) (HQ2.out.chg CC.out (fun _ _ h => h)) (fun k hk => HFAR.out _ _ (by have := hk.2; have := BL.out; omega) (fun _ => HR.out k hk.1)) (CC.out.cell HBX2.out (fun h => h)) (HFAR.out _ _ BL.out (fun h => absurd h (Nat.lt_irrefl _))) HOK.out.drop (by rw [HN2.out]; exact HOK.out.dropl) (by have := HRL.out; have := HNL.out; have := HOK.out.putl; simp only [List.length_append, num_len]; omega) 6).mono ?_
  rintro e' w3 ⟨rfl, h3⟩
  have HT3 := hid (HT2.out.trans (WrTo.pre (S := fun k => (S k ∧ k < w.heap.size) ∨ wb.heap.size ≤ k) CC.out h3 (fun k hk => .inl hk.1)))
  have hb3 : w3.cell? ⟨w.heap.size, 0, none⟩ = some (.pointer (some ⟨g, 0, none⟩)) := (by obtain ⟨v3, _, hc⟩ := h3; exact hc.cell (CC.out.cell hb2 (fun h => h)) (HFAR.out _ _ BL.out (fun h => absurd h (Nat.lt_irrefl _))))
  clear h3
  refine hK.out _ _ ?_ (fun hHeld2 => ?_)
  · first | assumption | exact hb2
  clear hHeld hK K
  have hHeld := hHeld2
  clear hHeld2
  try simp only [Act.put, List.setIfInBounds_toArray, List.set_cons_zero, List.set_cons_succ]
  refine wpB_done (by kernel_rfl) ?_ _
  clear hHeld hb2 hb3
  go_wp2_with fail
  go_end0
  refine ⟨rfl, ?_⟩
  have q := WrTo.pre (S := S) CB.out HT3.out (fun k hk => .inl hk.1)
  rw [HN1.out, HN2.out] at q
  rw [entryB_eq]
  simpa only [List.append_assoc] using q
end Go.Proofs.Ytfpjickdkkhndaa.Pa


/- The contract of the codec's entry that reads. -/

namespace Go.Proofs.Ytfpjickdkkhndaa.Pa

set_option linter.unusedVariables false

set_option linter.unusedSimpArgs false

open Go.RowKit Go.Proofs.Ytfpjickdkkhndaa.C

attribute [local go_sem] max2_int min2_int max_two min_two

def mkEntry : List Int → List Rule → List Int → Entry
  | [a, b, c, d, e, f, g], p, q => ⟨a, b, c, d, e, f, g, p, q⟩
  | _, p, q => ⟨0, 0, 0, 0, 0, 0, 0, p, q⟩
def rdEntry : List UInt8 → Option (Entry × List UInt8) := thenRd (thenRd (rdList rdNum 7) (rdSeq 30 rdRule) Prod.mk) (rdSeq 6 rdNum) (fun q d => mkEntry q.1 q.2 d)
/-- An entry was read into a block. -/
def EntryTo (w : World) (B g : Nat) (A : Option Addr) (n c : Nat) (b : List UInt8) (at_ : Nat) (bad : Bool) (p tp : Nat) (w' : World) : Prop :=
  ∃ (e : Entry) (A1 : Option Addr) (n1 c1 : Nat) (A2 : Option Addr) (n2 c2 : Nat), EntryAt w' (fun k => w.heap.size ≤ k) e A1 n1 c1 A2 n2 c2 ∧ w'.heap[p]? = some (.cells (entryCells e A1 n1 c1 A2 n2 c2).toArray tp (0, 0)) ∧ Chg (fun j => j = g ∨ j = p) w w' ∧ RdTo B g A n c b at_ bad rdEntry w' e

set_option maxHeartbeats 4000000 in
set_option maxRecDepth 100000 in
theorem entry_r {w : World} {B g p tp : Nat} {A : Option Addr} {n c : Nat} {b : List UInt8} {at_ : Nat} {bad : Bool} {vs : List Int} (h : Rd w B g A n c b at_ bad) (hp : w.heap[p]? = some (.cells (ints vs ++ [Value.slice none 0 0, .slice none 0 0]).toArray tp (0, 0))) (hvs : vs.length = 7) (hpB : B ≤ p) (hpg : p ≠ g) (hwf : ∀ u ∈ vs, (Lit.int .i64 u).wf = true) (hn : n ≤ 1000000) :
    Calls Try.prog 77 #[.pointer (some ⟨g, 0, none⟩), .pointer (some ⟨p, 0, none⟩)] w fun e' w' => e' = .returned (.tuple #[]) ∧ EntryTo w B g A n c b at_ bad p tp w' := by
  have H := hid h
  have HP := hid hp
  have HPL := hid (lt_of_blk hp)
  have HGL := hid h.lt
  have HWF := hid hwf
  obtain ⟨wb, hwb⟩ : ∃ wb, wb = w.alloc (.cells #[.pointer (some ⟨g, 0, none⟩)] 105) := ⟨_, rfl⟩
  have CB := hid (show Chg (fun _ => False) w wb by rw [hwb]; exact (Chg.refl _ w).alloc _)
  have BB := hid (show wb.heap[w.heap.size]? = some (.cells #[.pointer (some ⟨g, 0, none⟩)] 105 (0, 0)) by rw [hwb]; exact blk_new w _)
  have BL := hid (show w.heap.size < wb.heap.size from lt_of_blk BB.out)
  have hbx : wb.cell? ⟨w.heap.size, 0, none⟩ = some (.pointer (some ⟨g, 0, none⟩)) := by rw [cellAt BB.out]; rfl
  have hbx' : ¬ (w.heap.size = g ∨ w.heap.size = p) := by have := HGL.out; have := HPL.out; omega
  clear h hp hwf
  go_enter Try.func77, Try.ntmps77
  go_wp2_with fail
  rw [← hwb]
  clear hwb
  refine wpB_start (fun wx : World => wx.cell? ⟨w.heap.size, 0, none⟩ = some (.pointer (some ⟨g, 0, none⟩))) (by kernel_rfl) ?_
  have hHeld : (fun wx : World => wx.cell? ⟨w.heap.size, 0, none⟩ = some (.pointer (some ⟨g, 0, none⟩))) _ := (by first | assumption | exact Chg.drew (Chg.refl _ _) | (show _ ∧ _; refine ⟨?_, ?_⟩ <;> assumption) | first | assumption | exact hbx | exact ((Chg.refl (fun _ => False) wb).alloc _).drew.cell hbx (fun h => h))
  -- 0: t4 := load 105 t2 : 105
  refine wpB_take (i := 0) (v := ?_) (get_of_drop rfl) (by kernel_rfl) (by kernel_rfl) (by kernel_rfl) (by kernel_rfl) (fun _ _ _ h => h) (Or.inl ⟨by rfl, ?_⟩) hHeld ?_
  rotate_left
  · (intro w hSw; (try dsimp only at hSw); go_simp <;> with_reducible rfl)
  try simp only [Act.put, List.setIfInBounds_toArray, List.set_cons_zero, List.set_cons_succ]
  -- 1: t5 := move t1 : 140
  refine wpB_take (i := 1) (v := ?_) (get_of_drop rfl) (by kernel_rfl) (by kernel_rfl) (by kernel_rfl) (by kernel_rfl) (fun _ _ _ h => h) (Or.inl ⟨by rfl, ?_⟩) hHeld ?_
  rotate_left
  · (intro w hSw; (try dsimp only at hSw); go_simp <;> with_reducible rfl)
  try simp only [Act.put, List.setIfInBounds_toArray, List.set_cons_zero, List.set_cons_succ]
  -- 2: t6 := nilCheck t5 : 0
  refine wpB_take (i := 2) (v := ?_) (get_of_drop rfl) (by kernel_rfl) (by kernel_rfl) (by kernel_rfl) (by kernel_rfl) (fun _ _ _ h => h) (Or.inl ⟨by rfl, ?_⟩) hHeld ?_
  rotate_left
  · (intro w hSw; (try dsimp only at hSw); go_simp <;> with_reducible rfl)
  try simp only [Act.put, List.setIfInBounds_toArray, List.set_cons_zero, List.set_cons_succ]
  -- 3: t7 := fieldAddr 52 t6 0 : 0
  refine wpB_take (i := 3) (v := ?_) (get_of_drop rfl) (by kernel_rfl) (by kernel_rfl) (by kernel_rfl) (by kernel_rfl) (fun _ _ _ h => h) (Or.inl ⟨by rfl, ?_⟩) hHeld ?_
  rotate_left
  · (intro w hSw; (try dsimp only at hSw); go_simp <;> with_reducible rfl)
  try simp only [Act.put, List.setIfInBounds_toArray, List.set_cons_zero, List.set_cons_succ]
  -- 4: t8 := move t1 : 140
  refine wpB_take (i := 4) (v := ?_) (get_of_drop rfl) (by kernel_rfl) (by kernel_rfl) (by kernel_rfl) (by kernel_rfl) (fun _ _ _ h => h) (Or.inl ⟨by rfl, ?_⟩) hHeld ?_
  rotate_left
  · (intro w hSw; (try dsimp only at hSw); go_simp <;> with_reducible rfl)
  try simp only [Act.put, List.setIfInBounds_toArray, List.set_cons_zero, List.set_cons_succ]
  -- 5: t9 := nilCheck t8 : 0
  refine wpB_take (i := 5) (v := ?_) (get_of_drop rfl) (by kernel_rfl) (by kernel_rfl) (by kernel_rfl) (by kernel_rfl) (fun _ _ _ h => h) (Or.inl ⟨by rfl, ?_⟩) hHeld ?_
  rotate_left
  · (intro w hSw; (try dsimp only at hSw); go_simp <;> with_reducible rfl)
  try simp only [Act.put, List.setIfInBounds_toArray, List.set_cons_zero, List.set_cons_succ]
  -- 6: t10 := fieldAddr 52 t9 1 : 0
  refine wpB_take (i := 6) (v := ?_) (get_of_drop rfl) (by kernel_rfl) (by kernel_rfl) (by kernel_rfl) (by kernel_rfl) (fun _ _ _ h => h) (Or.inl ⟨by rfl, ?_⟩) hHeld ?_
  rotate_left
  · (intro w hSw; (try dsimp only at hSw); go_simp <;> with_reducible rfl)
  try simp only [Act.put, List.setIfInBounds_toArray, List.set_cons_zero, List.set_cons_succ]
  -- 7: t11 := move t1 : 140
  refine wpB_take (i := 7) (v := ?_) (get_of_drop rfl) (by kernel_rfl) (by kernel_rfl) (by kernel_rfl) (by kernel_rfl) (fun _ _ _ h => h) (Or.inl ⟨by rfl, ?_⟩) hHeld ?_
  rotate_left
  · (intro w hSw; (try dsimp only at hSw); go_simp <;> with_reducible rfl)
  try simp only [Act.put, List.setIfInBounds_toArray, List.set_cons_zero, List.set_cons_succ]
  -- 8: t12 := nilCheck t11 : 0
  refine wpB_take (i := 8) (v := ?_) (get_of_drop rfl) (by kernel_rfl) (by kernel_rfl) (by kernel_rfl) (by kernel_rfl) (fun _ _ _ h => h) (Or.inl ⟨by rfl, ?_⟩) hHeld ?_
  rotate_left
  · (intro w hSw; (try dsimp only at hSw); go_simp <;> with_reducible rfl)
  try simp only [Act.put, List.setIfInBounds_toArray, List.set_cons_zero, List.set_cons_succ]
  -- 9: t13 := fieldAddr 52 t12 2 : 0
  refine wpB_take (i := 9) (v := ?_) (get_of_drop rfl) (by kernel_rfl) (by kernel_rfl) (by kernel_rfl) (by kernel_rfl) (fun _ _ _ h => h) (Or.inl ⟨by rfl, ?_⟩) hHeld ?_
  rotate_left
  · (intro w hSw; (try dsimp only at hSw); go_simp <;> with_reducible rfl)
  try simp only [Act.put, List.setIfInBounds_toArray, List.set_cons_zero, List.set_cons_succ]
  -- 10: t14 := move t1 : 140
  refine wpB_take (i := 10) (v := ?_) (get_of_drop rfl) (by kernel_rfl) (by kernel_rfl) (by kernel_rfl) (by kernel_rfl) (fun _ _ _ h => h) (Or.inl ⟨by rfl, ?_⟩) hHeld ?_
  rotate_left
  · (intro w hSw; (try dsimp only at hSw); go_simp <;> with_reducible rfl)
  try simp only [Act.put, List.setIfInBounds_toArray, List.set_cons_zero, List.set_cons_succ]
  -- 11: t15 := nilCheck t14 : 0
  refine wpB_take (i := 11) (v := ?_) (get_of_drop rfl) (by kernel_rfl) (by kernel_rfl) (by kernel_rfl) (by kernel_rfl) (fun _ _ _ h => h) (Or.inl ⟨by rfl, ?_⟩) hHeld ?_
  rotate_left
  · (intro w hSw; (try dsimp only at hSw); go_simp <;> with_reducible rfl)
  try simp only [Act.put, List.setIfInBounds_toArray, List.set_cons_zero, List.set_cons_succ]
  -- 12: t16 := fieldAddr 52 t15 3 : 0
  refine wpB_take (i := 12) (v := ?_) (get_of_drop rfl) (by kernel_rfl) (by kernel_rfl) (by kernel_rfl) (by kernel_rfl) (fun _ _ _ h => h) (Or.inl ⟨by rfl, ?_⟩) hHeld ?_
  rotate_left
  · (intro w hSw; (try dsimp only at hSw); go_simp <;> with_reducible rfl)
  try simp only [Act.put, List.setIfInBounds_toArray, List.set_cons_zero, List.set_cons_succ]
  -- 13: t17 := fieldAddr 50 t16 0 : 0
  refine wpB_take (i := 13) (v := ?_) (get_of_drop rfl) (by kernel_rfl) (by kernel_rfl) (by kernel_rfl) (by kernel_rfl) (fun _ _ _ h => h) (Or.inl ⟨by rfl, ?_⟩) hHeld ?_
  rotate_left
  · (intro w hSw; (try dsimp only at hSw); go_simp <;> with_reducible rfl)
  try simp only [Act.put, List.setIfInBounds_toArray, List.set_cons_zero, List.set_cons_succ]
  -- 14: t18 := move t1 : 140
  refine wpB_take (i := 14) (v := ?_) (get_of_drop rfl) (by kernel_rfl) (by kernel_rfl) (by kernel_rfl) (by kernel_rfl) (fun _ _ _ h => h) (Or.inl ⟨by rfl, ?_⟩) hHeld ?_
  rotate_left
  · (intro w hSw; (try dsimp only at hSw); go_simp <;> with_reducible rfl)
  try simp only [Act.put, List.setIfInBounds_toArray, List.set_cons_zero, List.set_cons_succ]
  -- 15: t19 := nilCheck t18 : 0
  refine wpB_take (i := 15) (v := ?_) (get_of_drop rfl) (by kernel_rfl) (by kernel_rfl) (by kernel_rfl) (by kernel_rfl) (fun _ _ _ h => h) (Or.inl ⟨by rfl, ?_⟩) hHeld ?_
  rotate_left
  · (intro w hSw; (try dsimp only at hSw); go_simp <;> with_reducible rfl)
  try simp only [Act.put, List.setIfInBounds_toArray, List.set_cons_zero, List.set_cons_succ]
  -- 16: t20 := fieldAddr 52 t19 3 : 0
  refine wpB_take (i := 16) (v := ?_) (get_of_drop rfl) (by kernel_rfl) (by kernel_rfl) (by kernel_rfl) (by kernel_rfl) (fun _ _ _ h => h) (Or.inl ⟨by rfl, ?_⟩) hHeld ?_
  rotate_left
  · (intro w hSw; (try dsimp only at hSw); go_simp <;> with_reducible rfl)
  try simp only [Act.put, List.setIfInBounds_toArray, List.set_cons_zero, List.set_cons_succ]
  -- 17: t21 := fieldAddr 50 t20 1 : 0
  refine wpB_take (i := 17) (v := ?_) (get_of_drop rfl) (by kernel_rfl) (by kernel_rfl) (by kernel_rfl) (by kernel_rfl) (fun _ _ _ h => h) (Or.inl ⟨by rfl, ?_⟩) hHeld ?_
  rotate_left
  · (intro w hSw; (try dsimp only at hSw); go_simp <;> with_reducible rfl)
  try simp only [Act.put, List.setIfInBounds_toArray, List.set_cons_zero, List.set_cons_succ]
  -- 18: t22 := move t1 : 140
  refine wpB_take (i := 18) (v := ?_) (get_of_drop rfl) (by kernel_rfl) (by kernel_rfl) (by kernel_rfl) (by kernel_rfl) (fun _ _ _ h => h) (Or.inl ⟨by rfl, ?_⟩) hHeld ?_
  rotate_left
  · (intro w hSw; (try dsimp only at hSw); go_simp <;> with_reducible rfl)
  try simp only [Act.put, List.setIfInBounds_toArray, List.set_cons_zero, List.set_cons_succ]
  -- 19: t23 := nilCheck t22 : 0
  refine wpB_take (i := 19) (v := ?_) (get_of_drop rfl) (by kernel_rfl) (by kernel_rfl) (by kernel_rfl) (by kernel_rfl) (fun _ _ _ h => h) (Or.inl ⟨by rfl, ?_⟩) hHeld ?_
  rotate_left
  · (intro w hSw; (try dsimp only at hSw); go_simp <;> with_reducible rfl)
  try simp only [Act.put, List.setIfInBounds_toArray, List.set_cons_zero, List.set_cons_succ]
  -- 20: t24 := fieldAddr 52 t23 3 : 0
  refine wpB_take (i := 20) (v := ?_) (get_of_drop rfl) (by kernel_rfl) (by kernel_rfl) (by kernel_rfl) (by kernel_rfl) (fun _ _ _ h => h) (Or.inl ⟨by rfl, ?_⟩) hHeld ?_
  rotate_left
  · (intro w hSw; (try dsimp only at hSw); go_simp <;> with_reducible rfl)
  try simp only [Act.put, List.setIfInBounds_toArray, List.set_cons_zero, List.set_cons_succ]
  -- 21: t25 := fieldAddr 50 t24 2 : 0
  refine wpB_take (i := 21) (v := ?_) (get_of_drop rfl) (by kernel_rfl) (by kernel_rfl) (by kernel_rfl) (by kernel_rfl) (fun _ _ _ h => h) (Or.inl ⟨by rfl, ?_⟩) hHeld ?_
  rotate_left
  · (intro w hSw; (try dsimp only at hSw); go_simp <;> with_reducible rfl)
  try simp only [Act.put, List.setIfInBounds_toArray, List.set_cons_zero, List.set_cons_succ]
  -- 22: t26 := move t1 : 140
  refine wpB_take (i := 22) (v := ?_) (get_of_drop rfl) (by kernel_rfl) (by kernel_rfl) (by kernel_rfl) (by kernel_rfl) (fun _ _ _ h => h) (Or.inl ⟨by rfl, ?_⟩) hHeld ?_
  rotate_left
  · (intro w hSw; (try dsimp only at hSw); go_simp <;> with_reducible rfl)
  try simp only [Act.put, List.setIfInBounds_toArray, List.set_cons_zero, List.set_cons_succ]
  -- 23: t27 := nilCheck t26 : 0
  refine wpB_take (i := 23) (v := ?_) (get_of_drop rfl) (by kernel_rfl) (by kernel_rfl) (by kernel_rfl) (by kernel_rfl) (fun _ _ _ h => h) (Or.inl ⟨by rfl, ?_⟩) hHeld ?_
  rotate_left
  · (intro w hSw; (try dsimp only at hSw); go_simp <;> with_reducible rfl)
  try simp only [Act.put, List.setIfInBounds_toArray, List.set_cons_zero, List.set_cons_succ]
  -- 24: t28 := fieldAddr 52 t27 3 : 0
  refine wpB_take (i := 24) (v := ?_) (get_of_drop rfl) (by kernel_rfl) (by kernel_rfl) (by kernel_rfl) (by kernel_rfl) (fun _ _ _ h => h) (Or.inl ⟨by rfl, ?_⟩) hHeld ?_
  rotate_left
  · (intro w hSw; (try dsimp only at hSw); go_simp <;> with_reducible rfl)
  try simp only [Act.put, List.setIfInBounds_toArray, List.set_cons_zero, List.set_cons_succ]
  -- 25: t29 := fieldAddr 50 t28 3 : 0
  refine wpB_take (i := 25) (v := ?_) (get_of_drop rfl) (by kernel_rfl) (by kernel_rfl) (by kernel_rfl) (by kernel_rfl) (fun _ _ _ h => h) (Or.inl ⟨by rfl, ?_⟩) hHeld ?_
  rotate_left
  · (intro w hSw; (try dsimp only at hSw); go_simp <;> with_reducible rfl)
  try simp only [Act.put, List.setIfInBounds_toArray, List.set_cons_zero, List.set_cons_succ]
  -- 26: t30 := buildSlice 138 7 [⟨0, t7⟩, ⟨1, t10⟩, ⟨2, t13⟩, ⟨3, t17⟩, ⟨4, t21⟩, ⟨5, t25⟩, ⟨6, t29⟩] : 138
  refine wpB_act (i := 26) (by kernel_rfl) (get_of_drop rfl) (fun K hK => ?_)
  go_simp
  refine hK.out _ _ ?_ (fun hHeld2 => ?_)
  · first | assumption | exact hbx | exact ((Chg.refl (fun _ => False) wb).alloc _).drew.cell hbx (fun h => h)
  clear hHeld hK K
  have hHeld := hHeld2
  clear hHeld2
  try simp only [Act.put, List.setIfInBounds_toArray, List.set_cons_zero, List.set_cons_succ]
  -- 27: t31 := CALL fn75(t4, t30) : 0
  refine wpB_act (i := 27) (by kernel_rfl) (get_of_drop rfl) (fun K hK => ?_)
  go_simp
  have CC := hid (show Chg (fun _ => False) w (wb.alloc (.cells (ptrs p 7).toArray 130)).drew from (CB.out.alloc _).drew)
  have hargs : vs.length = 7 := hvs
  have hnum := num_r (vs := vs) (r := [Value.slice none 0 0, .slice none 0 0]) (p := p) (tp := tp) (R := fun k => k = wb.heap.size) (cl := 7) (H.out.chg CC.out (fun _ h => h.elim) (fun h => h)) (by rw [hvs]; exact lit_sees wb (ptrs p 7).toArray 130) (fun k hk => by have := HPL.out; have := HGL.out; have := BL.out; omega) (CC.out.blk HP.out (fun h => h)) hpB hpg HWF.out (by omega) (by omega)
  rw [hvs] at hnum
  refine hnum.mono ?_
  rintro e' w1 ⟨rfl, us, hus, hw, hblk, hchg, at1, bad1, hrd, heq⟩
  have HT := hid (And.intro hus (And.intro hw (And.intro hblk (And.intro ((CC.out.mono (S' := fun j => j = g ∨ j = p) (fun _ h _ => h.elim)).trans hchg (fun _ h _ => h)) (And.intro hrd heq)))))
  have hb1 : w1.cell? ⟨w.heap.size, 0, none⟩ = some (.pointer (some ⟨g, 0, none⟩)) := hchg.cell (((Chg.refl (fun _ => False) wb).alloc _).drew.cell hbx (fun h => h)) hbx'
  clear hus hw hblk hchg hrd heq
  refine hK.out _ _ ?_ (fun hHeld2 => ?_)
  · first | assumption | exact hbx | exact ((Chg.refl (fun _ => False) wb).alloc _).drew.cell hbx (fun h => h)
  clear hHeld hK K
  have hHeld := hHeld2
  clear hHeld2
  try simp only [Act.put, List.setIfInBounds_toArray, List.set_cons_zero, List.set_cons_succ]
  refine wpB_done (by kernel_rfl) ?_ _
  clear hHeld hargs hnum
  obtain ⟨q1, q2, q3, q4, q5, q6⟩ := HT.out
  have Q1 := hid (show us.length = 7 from q1)
  have Q3 := hid q3
  have Q4 := hid q4
  have Q5 := hid q5
  have HBX1 := hid hb1
  clear q1 q2 q3 q4 q5 q6
  go_wp2_with fail
  refine wpB_start (fun wx : World => wx.cell? ⟨w.heap.size, 0, none⟩ = some (.pointer (some ⟨g, 0, none⟩))) (by kernel_rfl) ?_
  have hHeld : (fun wx : World => wx.cell? ⟨w.heap.size, 0, none⟩ = some (.pointer (some ⟨g, 0, none⟩))) _ := (by first | assumption | exact Chg.drew (Chg.refl _ _) | (show _ ∧ _; refine ⟨?_, ?_⟩ <;> assumption) | first | assumption | exact hb1)
  -- 0: t32 := load 105 t2 : 105
  refine wpB_take (i := 0) (v := ?_) (get_of_drop rfl) (by kernel_rfl) (by kernel_rfl) (by kernel_rfl) (by kernel_rfl) (fun _ _ _ h => h) (Or.inl ⟨by rfl, ?_⟩) hHeld ?_
  rotate_left
  · (intro w hSw; (try dsimp only at hSw); go_simp <;> with_reducible rfl)
  try simp only [Act.put, List.setIfInBounds_toArray, List.set_cons_zero, List.set_cons_succ]
  -- 1: t33 := move t1 : 140
  refine wpB_take (i := 1) (v := ?_) (get_of_drop rfl) (by kernel_rfl) (by kernel_rfl) (by kernel_rfl) (by kernel_rfl) (fun _ _ _ h => h) (Or.inl ⟨by rfl, ?_⟩) hHeld ?_
  rotate_left
  · (intro w hSw; (try dsimp only at hSw); go_simp <;> with_reducible rfl)
  try simp only [Act.put, List.setIfInBounds_toArray, List.set_cons_zero, List.set_cons_succ]
  -- 2: t34 := nilCheck t33 : 0
  refine wpB_take (i := 2) (v := ?_) (get_of_drop rfl) (by kernel_rfl) (by kernel_rfl) (by kernel_rfl) (by kernel_rfl) (fun _ _ _ h => h) (Or.inl ⟨by rfl, ?_⟩) hHeld ?_
  rotate_left
  · (intro w hSw; (try dsimp only at hSw); go_simp <;> with_reducible rfl)
  try simp only [Act.put, List.setIfInBounds_toArray, List.set_cons_zero, List.set_cons_succ]
  -- 3: t35 := fieldAddr 52 t34 3 : 0
  refine wpB_take (i := 3) (v := ?_) (get_of_drop rfl) (by kernel_rfl) (by kernel_rfl) (by kernel_rfl) (by kernel_rfl) (fun _ _ _ h => h) (Or.inl ⟨by rfl, ?_⟩) hHeld ?_
  rotate_left
  · (intro w hSw; (try dsimp only at hSw); go_simp <;> with_reducible rfl)
  try simp only [Act.put, List.setIfInBounds_toArray, List.set_cons_zero, List.set_cons_succ]
  -- 4: t36 := fieldAddr 50 t35 4 : 0
  refine wpB_take (i := 4) (v := ?_) (get_of_drop rfl) (by kernel_rfl) (by kernel_rfl) (by kernel_rfl) (by kernel_rfl) (fun _ _ _ h => h) (Or.inl ⟨by rfl, ?_⟩) hHeld ?_
  rotate_left
  · (intro w hSw; (try dsimp only at hSw); go_simp <;> with_reducible rfl)
  try simp only [Act.put, List.setIfInBounds_toArray, List.set_cons_zero, List.set_cons_succ]
  -- 5: t37 := load 105 t2 : 105
  refine wpB_take (i := 5) (v := ?_) (get_of_drop rfl) (by kernel_rfl) (by kernel_rfl) (by kernel_rfl) (by kernel_rfl) (fun _ _ _ h => h) (Or.inl ⟨by rfl, ?_⟩) hHeld ?_
  rotate_left
  · (intro w hSw; (try dsimp only at hSw); go_simp <;> with_reducible rfl)
  try simp only [Act.put, List.setIfInBounds_toArray, List.set_cons_zero, List.set_cons_succ]
  -- 6: t38 := makeFunc Fn.func(86) [t37] [] : 143
  refine wpB_take (i := 6) (v := ?_) (get_of_drop rfl) (by kernel_rfl) (by kernel_rfl) (by kernel_rfl) (by kernel_rfl) (fun _ _ _ h => h) (Or.inl ⟨by rfl, ?_⟩) hHeld ?_
  rotate_left
  · (intro w hSw; (try dsimp only at hSw); go_simp <;> with_reducible rfl)
  try simp only [Act.put, List.setIfInBounds_toArray, List.set_cons_zero, List.set_cons_succ]
  -- 7: t39 := CALL fn85(t32, t36, #i64:30, t38) : 0
  refine wpB_act (i := 7) (by kernel_rfl) (get_of_drop rfl) (fun K hK => ?_)
  go_simp
  have CC := hid (show Chg (fun _ => False) w1 w1.drew from (Chg.refl _ w1).drew)
  refine (rules_r (o := 7) (bx := w.heap.size) (tp := tp) (Q5.out.chg CC.out (fun _ h => h.elim) (fun h => h)) (CC.out.blk Q3.out (fun h => h)) (by simp [Q1.out]) hpB hpg (CC.out.cell HBX1.out (fun h => h)) (by have := HGL.out; have := HPL.out; omega) hn (L := 30) (by omega) (by omega)).mono ?_
  rintro e' w2 ⟨rfl, xs, A1, c1, hxl, hblk, hvec, hchg, at2, bad2, hrd, heq⟩
  have HT2 := hid (And.intro hblk (And.intro (show Vec ruleK 54 w2 (fun k => w1.heap.size ≤ k) (fun k => w1.heap.size ≤ k) (.slice A1 xs.length c1) xs from hvec) (And.intro (show Chg (fun j => j = g ∨ j = p) w1 w2 from (CC.out.mono (fun _ h _ => h.elim)).trans hchg (fun _ h _ => h)) (And.intro hrd heq))))
  have hb2 : w2.cell? ⟨w.heap.size, 0, none⟩ = some (.pointer (some ⟨g, 0, none⟩)) := hchg.cell (CC.out.cell hb1 (fun h => h)) hbx'
  clear hblk hvec hchg hrd heq
  refine hK.out _ _ ?_ (fun hHeld2 => ?_)
  · first | assumption | exact hb1
  clear hHeld hK K
  have hHeld := hHeld2
  clear hHeld2
  try simp only [Act.put, List.setIfInBounds_toArray, List.set_cons_zero, List.set_cons_succ]
  refine wpB_done (by kernel_rfl) ?_ _
  clear hHeld hb1 HBX1
  obtain ⟨u0, u1, u2, u3, u4, u5, u6, hul⟩ : ∃ u0 u1 u2 u3 u4 u5 u6, us = [u0, u1, u2, u3, u4, u5, u6] := by
    match us, Q1.out with
    | [a, b, c, d, e, f, g], _ => exact ⟨a, b, c, d, e, f, g, rfl⟩
  subst hul
  obtain ⟨q1, q2, q3, q4, q5⟩ := HT2.out
  have R1 := hid (show w2.heap[p]? = some (.cells (ints [u0, u1, u2, u3, u4, u5, u6] ++ [Value.slice A1 xs.length c1, .slice none 0 0]).toArray tp (0, 0)) from q1)
  have R4 := hid q4
  have HBX2 := hid hb2
  clear q1 q2 q3 q4 q5
  go_wp2_with fail
  refine wpB_start (fun wx : World => wx.cell? ⟨w.heap.size, 0, none⟩ = some (.pointer (some ⟨g, 0, none⟩))) (by kernel_rfl) ?_
  have hHeld : (fun wx : World => wx.cell? ⟨w.heap.size, 0, none⟩ = some (.pointer (some ⟨g, 0, none⟩))) _ := (by first | assumption | exact Chg.drew (Chg.refl _ _) | (show _ ∧ _; refine ⟨?_, ?_⟩ <;> assumption) | first | assumption | exact hb2)
  -- 0: t40 := load 105 t2 : 105
  refine wpB_take (i := 0) (v := ?_) (get_of_drop rfl) (by kernel_rfl) (by kernel_rfl) (by kernel_rfl) (by kernel_rfl) (fun _ _ _ h => h) (Or.inl ⟨by rfl, ?_⟩) hHeld ?_
  rotate_left
  · (intro w hSw; (try dsimp only at hSw); go_simp <;> with_reducible rfl)
  try simp only [Act.put, List.setIfInBounds_toArray, List.set_cons_zero, List.set_cons_succ]
  -- 1: t41 := move t1 : 140
  refine wpB_take (i := 1) (v := ?_) (get_of_drop rfl) (by kernel_rfl) (by kernel_rfl) (by kernel_rfl) (by kernel_rfl) (fun _ _ _ h => h) (Or.inl ⟨by rfl, ?_⟩) hHeld ?_
  rotate_left
  · (intro w hSw; (try dsimp only at hSw); go_simp <;> with_reducible rfl)
  try simp only [Act.put, List.setIfInBounds_toArray, List.set_cons_zero, List.set_cons_succ]
  -- 2: t42 := nilCheck t41 : 0
  refine wpB_take (i := 2) (v := ?_) (get_of_drop rfl) (by kernel_rfl) (by kernel_rfl) (by kernel_rfl) (by kernel_rfl) (fun _ _ _ h => h) (Or.inl ⟨by rfl, ?_⟩) hHeld ?_
  rotate_left
  · (intro w hSw; (try dsimp only at hSw); go_simp <;> with_reducible rfl)
  try simp only [Act.put, List.setIfInBounds_toArray, List.set_cons_zero, List.set_cons_succ]
  -- 3: t43 := fieldAddr 52 t42 3 : 0
  refine wpB_take (i := 3) (v := ?_) (get_of_drop rfl) (by kernel_rfl) (by kernel_rfl) (by kernel_rfl) (by kernel_rfl) (fun _ _ _ h => h) (Or.inl ⟨by rfl, ?_⟩) hHeld ?_
  rotate_left
  · (intro w hSw; (try dsimp only at hSw); go_simp <;> with_reducible rfl)
  try simp only [Act.put, List.setIfInBounds_toArray, List.set_cons_zero, List.set_cons_succ]
  -- 4: t44 := fieldAddr 50 t43 5 : 0
  refine wpB_take (i := 4) (v := ?_) (get_of_drop rfl) (by kernel_rfl) (by kernel_rfl) (by kernel_rfl) (by kernel_rfl) (fun _ _ _ h => h) (Or.inl ⟨by rfl, ?_⟩) hHeld ?_
  rotate_left
  · (intro w hSw; (try dsimp only at hSw); go_simp <;> with_reducible rfl)
  try simp only [Act.put, List.setIfInBounds_toArray, List.set_cons_zero, List.set_cons_succ]
  -- 5: t45 := makeFunc Fn.func(88) [] [t2] : 146
  refine wpB_take (i := 5) (v := ?_) (get_of_drop rfl) (by kernel_rfl) (by kernel_rfl) (by kernel_rfl) (by kernel_rfl) (fun _ _ _ h => h) (Or.inl ⟨by rfl, ?_⟩) hHeld ?_
  rotate_left
  · (intro w hSw; (try dsimp only at hSw); go_simp <;> with_reducible rfl)
  try simp only [Act.put, List.setIfInBounds_toArray, List.set_cons_zero, List.set_cons_succ]
  -- 6: t46 := CALL fn87(t40, t44, #i64:6, t45) : 0
  refine wpB_act (i := 6) (by kernel_rfl) (get_of_drop rfl) (fun K hK => ?_)
  go_simp
  have CC := hid (show Chg (fun _ => False) w2 w2.drew from (Chg.refl _ w2).drew)
  refine (nums_r (o := 8) (bx := w.heap.size) (tp := tp) (R4.out.chg CC.out (fun _ h => h.elim) (fun h => h)) (CC.out.blk R1.out (fun h => h)) rfl hpB hpg (CC.out.cell HBX2.out (fun h => h)) (by have := HGL.out; have := HPL.out; omega) hn (L := 6) (by omega) (by omega)).mono ?_
  rintro e' w3 ⟨rfl, ys, A2, c2, hyl, hblk, hvec, hchg, at3, bad3, hrd, heq⟩
  have HT3 := hid (And.intro hblk (And.intro (show Vec (Ty.int .i64) 3 w3 (fun k => w2.heap.size ≤ k) (fun k => w2.heap.size ≤ k) (.slice A2 ys.length c2) ys from hvec) (And.intro (show Chg (fun j => j = g ∨ j = p) w2 w3 from (CC.out.mono (fun _ h _ => h.elim)).trans hchg (fun _ h _ => h)) (And.intro hrd heq))))
  have hb3 : w3.cell? ⟨w.heap.size, 0, none⟩ = some (.pointer (some ⟨g, 0, none⟩)) := hchg.cell (CC.out.cell hb2 (fun h => h)) hbx'
  clear hblk hvec hchg hrd heq
  refine hK.out _ _ ?_ (fun hHeld2 => ?_)
  · first | assumption | exact hb2
  clear hHeld hK K
  have hHeld := hHeld2
  clear hHeld2
  try simp only [Act.put, List.setIfInBounds_toArray, List.set_cons_zero, List.set_cons_succ]
  refine wpB_done (by kernel_rfl) ?_ _
  clear hHeld hb2 hb3
  go_wp2_with fail
  go_end0
  obtain ⟨_, w1f, _, ch1, _, eq1⟩ := HT.out
  obtain ⟨_, v2, ch2, _, eq2⟩ := HT2.out
  obtain ⟨b3, v3, ch3, rd3, eq3⟩ := HT3.out
  have hwl : w.heap.size ≤ w1.heap.size := ch1.size
  have hwl2 : w1.heap.size ≤ w2.heap.size := ch2.size
  have hpl := HPL.out
  have hgl := HGL.out
  refine ⟨rfl, mkEntry [u0, u1, u2, u3, u4, u5, u6] xs ys, A1, xs.length, c1, A2, ys.length, c2, ⟨w1f, ?_, ?_⟩, b3, (ch1.trans ch2 (fun _ h _ => h)).trans ch3 (fun _ h _ => h), at3, bad3, rd3, thenRd_eq _ (thenRd_eq _ eq1 eq2) eq3⟩
  · have v2' := v2.chg ch3 (fun k hk e => by have := v2.inS k hk; omega) (fun k hk _ _ e => by omega)
    exact v2'.at.mono (fun k hk => by rcases hk with hk | hk <;> omega)
  · exact v3.at.mono (fun k hk => by rcases hk with hk | hk <;> omega)
end Go.Proofs.Ytfpjickdkkhndaa.Pa
