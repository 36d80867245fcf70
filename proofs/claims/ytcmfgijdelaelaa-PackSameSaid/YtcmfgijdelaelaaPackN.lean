
/- The contract of the codec's num that writes. -/

import Derived.Test.YtcmfgijdelaelaaPackW

import Derived.IntWalk

namespace Go.Proofs.Ytcmfgijdelaelaa.Pa

set_option linter.unusedVariables false

set_option linter.unusedSimpArgs false

open Go.RowKit Go.Proofs.Ytcmfgijdelaelaa.C

attribute [local go_sem] max2_int min2_int max_two min_two

theorem flatMap_num_len : ∀ l : List Int, (l.flatMap num).length = 6 * l.length
  | [] => rfl
  | x :: l => by
    rw [List.flatMap_cons, List.length_append, flatMap_num_len l, num_len, List.length_cons]
    omega
/-- The codec's bytes were appended to, and the new slice was stored. -/
theorem wr_set {w wr w2 : World} {S : Nat → Prop} {g : Nat} {v v' : Value} {x y : List UInt8} (hc : Chg S w wr) (h : Wr wr (fun k => S k ∨ w.heap.size ≤ k) g v x) (h1 : w2.ownsRow 0 5 1 v' y.length (u8s y))
    (h2 : Chg (fun i => v.ownBlock = some i) wr w2) (h3 : ∀ i, v'.ownBlock = some i → v.ownBlock = some i ∨ wr.heap.size ≤ i) : WrTo S g y w (w2.setCell ⟨g, 0, none⟩ v') := by
  have hb := h2.blk h.blk h.ne
  have hS : Chg S w w2 := hc.trans h2 (fun j hj hlt => by
    rcases h.rowS j hj with q | q
    · exact q
    · omega)
  have hvg : v'.ownBlock ≠ some g := fun e => by
    rcases h3 g e with q | q
    · exact h.ne q
    · have := h.lt; omega
  have hset : Chg (fun k => k = g) w2 (w2.setCell ⟨g, 0, none⟩ v') := (Chg.refl (fun k => k = g) w2).set (p := ⟨g, 0, none⟩) (fun _ => rfl) _
  refine ⟨v', ⟨h.inS, blk_set hb 0 v', hset.own h1 (fun k hk e => hvg (e ▸ hk)), fun k hk => ?_⟩, hS.trans hset (fun j hj hlt => ?_)⟩
  · rcases h3 k hk with q | q
    · exact h.rowS k q
    · exact .inr (Nat.le_trans hc.size q)
  · subst hj
    rcases h.inS with q | q
    · exact q
    · omega
theorem num_next {w wr : World} {S : Nat → Prop} {g k : Nat} {v : Value} {x : List UInt8} {vs : List Int} {u : Int} (hu : vs[k]? = some u) (h : Wr wr (fun k => S k ∨ w.heap.size ≤ k) g v (x ++ (vs.take k).flatMap num ++ (num u).take 6)) (hc : Chg S w wr) :
    WrTo S g (x ++ (vs.take (k + 1)).flatMap num) w wr := by
  refine ⟨v, ?_, hc⟩
  rw [List.take_of_length_le (l := num u) (by rw [num_len]; exact Nat.le_refl _)] at h
  rw [List.take_add_one, hu, Option.toList_some, List.flatMap_append, ← List.append_assoc, List.flatMap_singleton]
  exact h
theorem byte_eq {u : Int} (h : NumOk u) {j : Nat} (hj : j < 6) : IntKind.u8.wrap (IntKind.i64.wrap (u + 1) / 2 ^ (40 - 8 * (j : Int)).toNat) = (((UInt8.ofNat (((u + 1) % 281474976710656).toNat / 2 ^ (40 - 8 * j))).toNat : Nat) : Int) := by
  obtain ⟨h1, h2⟩ := h
  rw [IntWalk.i64_in _ (by omega), Int.emod_eq_of_lt (by omega) (by omega)]
  obtain ⟨m, hm⟩ : ∃ m : Nat, u + 1 = (m : Int) := ⟨(u + 1).toNat, by omega⟩
  rw [hm, show (40 - 8 * (j : Int)).toNat = 40 - 8 * j by omega, Int.toNat_natCast, toNat_ofNat]
  generalize 40 - 8 * j = e
  rw [show ((m : Int) / 2 ^ e) = ((m / 2 ^ e : Nat) : Int) by rw [Int.natCast_ediv]; norm_cast]
  generalize m / 2 ^ e = q
  simp [IntKind.wrap, IntKind.signed, IntKind.bits]
/-- One byte more was appended. -/
theorem byte_next {w wr w2 : World} {S : Nat → Prop} {g nk j c2 c3 : Nat} {A2 A3 : Option Addr} {y : List UInt8} {u : Int} (hj : j < 6) (hc : Chg S w wr) (h : Wr wr (fun k => S k ∨ w.heap.size ≤ k) g (.slice A2 nk c2) (y ++ (num u).take j)) (hnk : nk = (y ++ (num u).take j).length) (hu : NumOk u)
    (h1 : w2.ownsRow 0 5 1 (.slice A3 (nk + 1) c3) (nk + 1) (u8s (y ++ (num u).take j) ++ [.int .u8 (IntKind.u8.wrap (IntKind.i64.wrap (u + 1) / 2 ^ (40 - 8 * (j : Int)).toNat))]))
    (h2 : Chg (fun i => (Value.slice A2 nk c2).ownBlock = some i) wr w2) (h3 : ∀ i, (Value.slice A3 (nk + 1) c3).ownBlock = some i → (Value.slice A2 nk c2).ownBlock = some i ∨ wr.heap.size ≤ i) :
    WrTo S g (y ++ (num u).take (j + 1)) w (w2.setCell ⟨g, 0, none⟩ (.slice A3 (nk + 1) c3)) := by
  have e : (y ++ (num u).take j) ++ [UInt8.ofNat (((u + 1) % 281474976710656).toNat / 2 ^ (40 - 8 * j))] = y ++ (num u).take (j + 1) := by rw [num_take_succ u hj, List.append_assoc]
  have e2 : u8s (y ++ (num u).take j) ++ [.int .u8 (IntKind.u8.wrap (IntKind.i64.wrap (u + 1) / 2 ^ (40 - 8 * (j : Int)).toNat))] = u8s (y ++ (num u).take (j + 1)) := by
    rw [byte_eq hu hj, ← e, u8s_append (y ++ (num u).take j)]
    rfl
  have e3 : nk + 1 = (y ++ (num u).take (j + 1)).length := by
    rw [← e, hnk, List.length_append (bs := [_])]
    rfl
  rw [e2] at h1
  refine wr_set hc h ?_ h2 h3
  rw [← e3]
  exact h1
set_option maxHeartbeats 2000000 in
set_option maxRecDepth 100000 in
theorem num_w {w : World} {S R : Nat → Prop} {g p : Nat} {v : Value} {x : List UInt8} {vs : List Int} {A : Option Addr} {c : Nat} (h : Wr w S g v x) (hl : Sees w R A (ptrs p vs.length)) (hR : ∀ k, R k → ¬ S k)
    (hp : ∀ i u, vs[i]? = some u → w.cell? ⟨p, i, none⟩ = some (.int .i64 u)) (hpS : ¬ S p) (hok : ∀ u ∈ vs, NumOk u) (hx : x.length ≤ 1000000000) (hn : vs.length ≤ 7) :
    Calls Try.prog 55 #[.pointer (some ⟨g, 0, none⟩), .slice A vs.length c] w fun e w' => e = .returned (.tuple #[]) ∧ WrTo S g (x ++ vs.flatMap num) w w' := by
  have H := hid h
  have HL := hid hl
  have HR := hid hR
  have HP := hid hp
  have HOK := hid hok
  obtain ⟨n, hnl⟩ : ∃ n, n = vs.length := ⟨_, rfl⟩
  have HNL := hid hnl
  rw [← hnl] at hn ⊢
  have hn2 : (n : Int) ≤ 7 := by omega
  clear h hl hR hp hok hnl
  go_enter Try.func55, Try.ntmps55
  go_wp2_with fail
  go_loopw [12] (fun i wr => ∃ k : Nat, k ≤ n ∧ i = .int .i64 k ∧ WrTo S g (x ++ (vs.take k).flatMap num) w wr) (fun i _ => n - (intOf i).toNat)
  case atStart => exact ⟨0, Nat.zero_le _, rfl, by simpa using WrTo.refl H.out⟩
  case round =>
    obtain ⟨k, hk, rfl, hT⟩ := hrel
    by_cases hlt : k < n
    · have hlt2 : (k : Int) < (n : Int) := by omega
      obtain ⟨v1, h1, hC⟩ := hT
      have H1 := hid h1
      have HC := hid hC
      obtain ⟨u, hu⟩ : ∃ u, vs[k]? = some u := ⟨_, List.getElem?_eq_getElem (by have := HNL.out; omega)⟩
      have HU := hid hu
      have hpu : wr.cell? ⟨p, k, none⟩ = some (.int .i64 u) := hC.cell (HP.out k u hu) hpS
      obtain ⟨a, hA, ha⟩ : ∃ a, A = some a ∧ wr.cell? (a.add k) = some (.pointer (some ⟨p, k, none⟩)) := by
        rcases HL.out with h | ⟨a, hA, hS, hx⟩
        · exfalso
          have := congrArg List.length h
          rw [ptrs_length] at this
          have := HNL.out
          have e0 : ([] : List Value).length = 0 := rfl
          omega
        · exact ⟨a, hA, hC.cell (hx k _ (ptrs_at (by have := HNL.out; omega))) (by rw [add_block]; exact HR.out _ hS)⟩
      subst hA
      obtain ⟨d0, d1, d2, d3⟩ := h1.cells
      have hb := HOK.out u (List.mem_of_getElem? hu)
      have hb1 := hb.1
      have hb2 := hb.2
      clear h1 hC hu hb
      go_wp2_with fail
      go_loopw [6] (fun i wq => ∃ j : Nat, j ≤ 6 ∧ i = .int .i64 (40 - 8 * (j : Int)) ∧ WrTo S g (x ++ (vs.take k).flatMap num ++ (num u).take j) w wq) (fun i _ => (intOf i + 8).toNat)
      case atStart => exact ⟨0, Nat.zero_le _, rfl, by simpa using ⟨v1, H1.out, HC.out⟩⟩
      case round =>
        rename_i wr0
        obtain ⟨j, hj, rfl, hT⟩ := hrel
        obtain ⟨v2, h2, hC2⟩ := hT
        have H2 := hid h2
        have HC2 := hid hC2
        by_cases hjl : j < 6
        · obtain ⟨A2, c2, hv2⟩ := h2.form
          obtain ⟨nk, hnk⟩ : ∃ nk, nk = (x ++ (vs.take k).flatMap num ++ (num u).take j).length := ⟨_, rfl⟩
          have NK := hid hnk
          rw [← hnk] at hv2
          subst hv2
          have hnkb : nk ≤ 1000000100 := by
            have q1 := flatMap_num_len (vs.take k)
            have q2 := num_len u
            rw [hnk, List.length_append, List.length_append, q1, List.length_take, List.length_take, q2]
            omega
          obtain ⟨M, hMM⟩ : ∃ M : Nat → Prop, ∀ i, M i ↔ (Value.slice A2 nk c2).ownBlock = some i := ⟨_, fun _ => Iff.rfl⟩
          have MM := hid hMM
          have hj0 : (0 : Int) ≤ 40 - 8 * (j : Int) := by omega
          obtain ⟨d0, d1, d2, d3⟩ := h2.cells
          have hcell0 : ∀ wx, Chg M wr wx → wx.cell? ⟨g, 0, none⟩ = some (.slice A2 nk c2) := fun wx hx => hx.cell d0 (fun h => H2.out.ne ((MM.out _).1 h))
          have hcellp : ∀ wx, Chg M wr wx → wx.cell? ⟨p, k, none⟩ = some (.int .i64 u) := fun wx hx => hx.cell (HC2.out.cell (HP.out k u HU.out) hpS) (fun h => by
            rcases H2.out.rowS _ ((MM.out _).1 h) with q | q
            · exact hpS q
            · have := World.block_lt_of_cell? w _ (HP.out k u HU.out); simp only at this q; omega)
          clear h2 hC2 hnk hMM d0 d1 d2 d3
          go_wp2_with fail
          refine wpB_start (fun wx : World => Chg M wr wx) (by kernel_rfl) ?_
          have hHeld : (fun wx : World => Chg M wr wx) _ := (by first | assumption | exact Chg.drew (Chg.refl _ _) | (show _ ∧ _; refine ⟨?_, ?_⟩ <;> assumption) | (first | assumption | exact hHeld.alloc _ | exact hHeld.trans h2 (fun _ h _ => (MM.out _).2 h)))
          -- 0: t24 := move t0 : 73
          refine wpB_take (i := 0) (v := ?_) (get_of_drop rfl) (by kernel_rfl) (by kernel_rfl) (by kernel_rfl) (by kernel_rfl) (fun _ _ _ h => h) (Or.inl ⟨by rfl, ?_⟩) hHeld ?_
          rotate_left
          · (intro w hSw; (try dsimp only at hSw); go_simp <;> with_reducible rfl)
          try simp only [Act.put, List.setIfInBounds_toArray, List.set_cons_zero, List.set_cons_succ]
          -- 1: t25 := move t0 : 73
          refine wpB_take (i := 1) (v := ?_) (get_of_drop rfl) (by kernel_rfl) (by kernel_rfl) (by kernel_rfl) (by kernel_rfl) (fun _ _ _ h => h) (Or.inl ⟨by rfl, ?_⟩) hHeld ?_
          rotate_left
          · (intro w hSw; (try dsimp only at hSw); go_simp <;> with_reducible rfl)
          try simp only [Act.put, List.setIfInBounds_toArray, List.set_cons_zero, List.set_cons_succ]
          -- 2: t26 := nilCheck t25 : 0
          refine wpB_take (i := 2) (v := ?_) (get_of_drop rfl) (by kernel_rfl) (by kernel_rfl) (by kernel_rfl) (by kernel_rfl) (fun _ _ _ h => h) (Or.inl ⟨by rfl, ?_⟩) hHeld ?_
          rotate_left
          · (intro w hSw; (try dsimp only at hSw); go_simp <;> with_reducible rfl)
          try simp only [Act.put, List.setIfInBounds_toArray, List.set_cons_zero, List.set_cons_succ]
          -- 3: t27 := fieldAddr 75 t26 0 : 0
          refine wpB_take (i := 3) (v := ?_) (get_of_drop rfl) (by kernel_rfl) (by kernel_rfl) (by kernel_rfl) (by kernel_rfl) (fun _ _ _ h => h) (Or.inl ⟨by rfl, ?_⟩) hHeld ?_
          rotate_left
          · (intro w hSw; (try dsimp only at hSw); go_simp <;> with_reducible rfl)
          try simp only [Act.put, List.setIfInBounds_toArray, List.set_cons_zero, List.set_cons_succ]
          -- 4: t28 := load 25 t27 : 25
          refine wpB_take (i := 4) (v := ?_) (get_of_drop rfl) (by kernel_rfl) (by kernel_rfl) (by kernel_rfl) (by kernel_rfl) (fun _ _ _ h => h) (Or.inl ⟨by rfl, ?_⟩) hHeld ?_
          rotate_left
          · (intro w hSw; (try dsimp only at hSw); go_simp <;> with_reducible rfl)
          try simp only [Act.put, List.setIfInBounds_toArray, List.set_cons_zero, List.set_cons_succ]
          -- 5: t29 := move t5 : 102
          refine wpB_take (i := 5) (v := ?_) (get_of_drop rfl) (by kernel_rfl) (by kernel_rfl) (by kernel_rfl) (by kernel_rfl) (fun _ _ _ h => h) (Or.inl ⟨by rfl, ?_⟩) hHeld ?_
          rotate_left
          · (intro w hSw; (try dsimp only at hSw); go_simp <;> with_reducible rfl)
          try simp only [Act.put, List.setIfInBounds_toArray, List.set_cons_zero, List.set_cons_succ]
          -- 6: t30 := nilCheck t29 : 0
          refine wpB_take (i := 6) (v := ?_) (get_of_drop rfl) (by kernel_rfl) (by kernel_rfl) (by kernel_rfl) (by kernel_rfl) (fun _ _ _ h => h) (Or.inl ⟨by rfl, ?_⟩) hHeld ?_
          rotate_left
          · (intro w hSw; (try dsimp only at hSw); go_simp <;> with_reducible rfl)
          try simp only [Act.put, List.setIfInBounds_toArray, List.set_cons_zero, List.set_cons_succ]
          -- 7: t31 := load 3 t30 : 3
          refine wpB_take (i := 7) (v := ?_) (get_of_drop rfl) (by kernel_rfl) (by kernel_rfl) (by kernel_rfl) (by kernel_rfl) (fun _ _ _ h => h) (Or.inl ⟨by rfl, ?_⟩) hHeld ?_
          rotate_left
          · (intro w hSw; (try dsimp only at hSw); go_simp <;> with_reducible rfl)
          try simp only [Act.put, List.setIfInBounds_toArray, List.set_cons_zero, List.set_cons_succ]
          -- 8: t32 := binOp BinOp.add 3 t31 #i64:1 3 : 3
          refine wpB_take (i := 8) (v := ?_) (get_of_drop rfl) (by kernel_rfl) (by kernel_rfl) (by kernel_rfl) (by kernel_rfl) (fun _ _ _ h => h) (Or.inl ⟨by rfl, ?_⟩) hHeld ?_
          rotate_left
          · (intro w hSw; (try dsimp only at hSw); go_simp <;> with_reducible rfl)
          try simp only [Act.put, List.setIfInBounds_toArray, List.set_cons_zero, List.set_cons_succ]
          -- 9: t33 := move t6 : 3
          refine wpB_take (i := 9) (v := ?_) (get_of_drop rfl) (by kernel_rfl) (by kernel_rfl) (by kernel_rfl) (by kernel_rfl) (fun _ _ _ h => h) (Or.inl ⟨by rfl, ?_⟩) hHeld ?_
          rotate_left
          · (intro w hSw; (try dsimp only at hSw); go_simp <;> with_reducible rfl)
          try simp only [Act.put, List.setIfInBounds_toArray, List.set_cons_zero, List.set_cons_succ]
          -- 10: t34 := binOp BinOp.shr 3 t32 t33 3 : 3
          refine wpB_take (i := 10) (v := ?_) (get_of_drop rfl) (by kernel_rfl) (by kernel_rfl) (by kernel_rfl) (by kernel_rfl) (fun _ _ _ h => h) (Or.inl ⟨by rfl, ?_⟩) hHeld ?_
          rotate_left
          · (intro w hSw; (try dsimp only at hSw); go_simp <;> with_reducible rfl)
          try simp only [Act.put, List.setIfInBounds_toArray, List.set_cons_zero, List.set_cons_succ]
          -- 11: t35 := convert 3 5 t34 : 5
          refine wpB_take (i := 11) (v := ?_) (get_of_drop rfl) (by kernel_rfl) (by kernel_rfl) (by kernel_rfl) (by kernel_rfl) (fun _ _ _ h => h) (Or.inl ⟨by rfl, ?_⟩) hHeld ?_
          rotate_left
          · (intro w hSw; (try dsimp only at hSw); go_simp <;> with_reducible rfl)
          try simp only [Act.put, List.setIfInBounds_toArray, List.set_cons_zero, List.set_cons_succ]
          -- 12: t36 := buildSlice 25 1 [⟨0, t35⟩] : 25
          refine wpB_act (i := 12) (by kernel_rfl) (get_of_drop rfl) (fun K hK => ?_)
          go_simp
          refine hK.out _ _ ?_ (fun hHeld2 => ?_)
          · (first | assumption | exact hHeld.alloc _ | exact hHeld.trans h2 (fun _ h _ => (MM.out _).2 h))
          clear hHeld hK K
          have hHeld := hHeld2
          clear hHeld2
          try simp only [Act.put, List.setIfInBounds_toArray, List.set_cons_zero, List.set_cons_succ]
          -- 13: t37 := append(t28, t36) types [25, 25] : 25
          refine wpB_act (i := 13) (by kernel_rfl) (get_of_drop rfl) (fun K hK => ?_)
          refine app_step _ rfl (.tmp 28) (.tmp 36) 25 5 (.int .u8 0) 1 1 rfl Try.underlying25 info5 rfl (by decide) (by decide) (.slice A2 nk c2) nk (u8s (x ++ (vs.take k).flatMap num ++ (num u).take j)) rfl (by have q := fun W (hW : Chg (fun _ => False) wr W) => hW.own H2.out.row (fun _ _ h => h); (try simp only at q); rw [← NK.out] at q; exact q _ ((Chg.refl _ wr).alloc _).drew) (some ⟨wr.heap.size, 0, none⟩) 1 1 _ _ rfl (by simp) (by omega) rfl ((one_sees wr _ 5).chg ((Chg.refl (fun _ => False) _).drew) (fun _ _ h => h)) (by simp [Value.oneCell']) (by omega) ?_
          have HH := hid hHeld
          intro A3 c3 w2 h1 h2 h3
          have f0' : w2.frozen? ⟨g, 0, none⟩ = false := freeAt ((HH.out.trans h2 (fun _ h _ => (MM.out _).2 h)).blk H2.out.blk (fun h => H2.out.ne ((MM.out _).1 h))) 0
          have c0' : w2.cell? ⟨g, 0, none⟩ = some (.slice A2 nk c2) := hcell0 _ (HH.out.trans h2 (fun _ h _ => (MM.out _).2 h))
          refine hK.out _ _ ?_ (fun hHeld2 => ?_)
          · (first | assumption | exact hHeld.alloc _ | exact hHeld.trans h2 (fun _ h _ => (MM.out _).2 h))
          clear hHeld hK K
          have hHeld := hHeld2
          clear hHeld2
          try simp only [Act.put, List.setIfInBounds_toArray, List.set_cons_zero, List.set_cons_succ]
          -- 14: t38 := nilCheck t24 : 0
          refine wpB_take (i := 14) (v := ?_) (get_of_drop rfl) (by kernel_rfl) (by kernel_rfl) (by kernel_rfl) (by kernel_rfl) (fun _ _ _ h => h) (Or.inl ⟨by rfl, ?_⟩) hHeld ?_
          rotate_left
          · (intro w hSw; (try dsimp only at hSw); go_simp <;> with_reducible rfl)
          try simp only [Act.put, List.setIfInBounds_toArray, List.set_cons_zero, List.set_cons_succ]
          -- 15: t39 := fieldAddr 75 t38 0 : 0
          refine wpB_take (i := 15) (v := ?_) (get_of_drop rfl) (by kernel_rfl) (by kernel_rfl) (by kernel_rfl) (by kernel_rfl) (fun _ _ _ h => h) (Or.inl ⟨by rfl, ?_⟩) hHeld ?_
          rotate_left
          · (intro w hSw; (try dsimp only at hSw); go_simp <;> with_reducible rfl)
          try simp only [Act.put, List.setIfInBounds_toArray, List.set_cons_zero, List.set_cons_succ]
          -- 16: t- := store 25 t39 t37 : 0 (BARRIER)
          refine wpB_bar (i := 16) (by kernel_rfl) (get_of_drop rfl) (by kernel_rfl) (fun K hK => ?_)
          go_simp
          refine hK.out _ _ (fun _ : World => True) ?_
          clear hHeld hK K
          have hHeld := trivial
          try simp only [Act.put, List.setIfInBounds_toArray, List.set_cons_zero, List.set_cons_succ]
          refine wpB_done (by kernel_rfl) ?_ _
          have G1 := hid h1
          have G2 := hid (((Chg.refl (fun j => (Value.slice A2 nk c2).ownBlock = some j) wr).alloc _).drew.trans h2 (fun _ h _ => h))
          have G3 := hid h3
          have HN := hid (byte_next hjl HC2.out H2.out NK.out ⟨hb1, hb2⟩ G1.out G2.out (fun i hi => by
            rcases G3.out i hi with q | q
            · exact .inl q
            · exact .inr (by simp at q; omega)))
          clear h1 h2 h3 hHeld hcell0 hcellp f0' c0'
          go_wp2_with fail
          go_roundw
          case measure => simp [intOf]; omega
          case rel => first | exact ⟨j + 1, hjl, by go_num, HN.out⟩ | ((repeat apply Exists.intro); exact ⟨⟨j + 1, hjl, by go_num, HN.out⟩, rfl⟩)
        · have hj0 : ¬ (0 : Int) ≤ 40 - 8 * (j : Int) := by omega
          obtain rfl : j = 6 := by omega
          have HN := hid (num_next HU.out H2.out HC2.out)
          clear h2 hC2
          go_wp2_with fail
          go_roundw
          case measure => simp [intOf]; omega
          case rel => first | exact ⟨k + 1, hlt, by go_num, HN.out⟩ | ((repeat apply Exists.intro); exact ⟨⟨k + 1, hlt, by go_num, HN.out⟩, rfl⟩)
    · have HT := hid hT
      clear hT
      go_wp2_with fail
      go_end0
      obtain rfl : k = n := by omega
      refine ⟨rfl, ?_⟩
      have := HT.out
      rwa [List.take_of_length_le (by have := HNL.out; omega)] at this
end Go.Proofs.Ytcmfgijdelaelaa.Pa
