/- The contracts of layer 17's own same, alike and without, at what is the same. -/
import Derived.Test.YtmllakklhbmboaaPostL
namespace Go.Proofs.Ytmllakklhbmboaa.Po
set_option linter.unusedVariables false
set_option linter.unusedSimpArgs false
open Go.RowKit Go.Proofs.Ytmllakklhbmboaa.C
attribute [local go_sem] max2_int min2_int max_two min_two

set_option maxHeartbeats 1000000 in
theorem same_any {R R' : Nat → Prop} {x : Pk} {A A' : Option Addr} {n c n' c' : Nat} {w : World} (h : PkAt w R x A n c) (h' : PkAt w R' x A' n' c') :
    Calls Try.prog 30 #[.agg #[.int .i64 x.src, .int .i64 x.dst, .slice A n c], .agg #[.int .i64 x.src, .int .i64 x.dst, .slice A' n' c']] w fun e w' => e = .returned (.bool true) ∧ Chg (fun _ => False) w w' := by
  have hs1 := fun W (hW : Chg (fun _ => False) w W) => str_run (P := Try.prog) (w := W) (src := 22) (dst := 9) (e := 5) (l := x.data) Try.underlying22 Try.underlying5 Try.underlying9 h.2.2.1 (h.2.2.bytes.chg hW (fun _ _ h => h)) h.2.2.2.2.2.1 h.2.2.2.1
  have hs2 := fun W (hW : Chg (fun _ => False) w W) => str_run (P := Try.prog) (w := W) (src := 22) (dst := 9) (e := 5) (l := x.data) Try.underlying22 Try.underlying5 Try.underlying9 h'.2.2.1 (h'.2.2.bytes.chg hW (fun _ _ h => h)) h'.2.2.2.2.2.1 h'.2.2.2.1
  have q1 := hs1 _ (((Chg.refl (fun _ => False) w).alloc (.cells #[.int .i64 x.src, .int .i64 x.dst, .slice A n c] 38)).alloc (.cells #[.int .i64 x.src, .int .i64 x.dst, .slice A' n' c'] 38))
  have q2 := hs2 _ (((Chg.refl (fun _ => False) w).alloc (.cells #[.int .i64 x.src, .int .i64 x.dst, .slice A n c] 38)).alloc (.cells #[.int .i64 x.src, .int .i64 x.dst, .slice A' n' c'] 38))
  clear h h' hs1 hs2
  go_enter Try.func30, Try.ntmps30
  go_wp2_with fail
  go_ret
  exact ⟨rfl, ((Chg.refl _ w).alloc _).alloc _⟩

/-- One packet of a slice that is read. -/
theorem pk_at {w : World} {S : Nat → Prop} {A : Option Addr} {n c : Nat} {xs : List Pk} (h : Ty.At pkK w S A n c xs) {i : Nat} {x : Pk} (hx : xs[i]? = some x) :
    ∃ a A' n' c', A = some a ∧ PkAt w S x A' n' c' ∧ w.cell? (a.add (i * 3)) = some (.int .i64 x.src) ∧ w.cell? ⟨(a.add (i * 3)).block, (a.add (i * 3)).off + 1, none⟩ = some (.int .i64 x.dst) ∧ w.cell? ⟨(a.add (i * 3)).block, (a.add (i * 3)).off + 2, none⟩ = some (.slice A' n' c') := by
  obtain ⟨a, cs, ha, hS, hK, hc⟩ := h.get (by decide) hx
  obtain ⟨A', n', c', rfl, hk⟩ := pk_open hK
  have e : ∀ j, a.add (i * 3 + (j + 1)) = ⟨(a.add (i * 3)).block, (a.add (i * 3)).off + (j + 1), none⟩ := fun j => by
    rw [← C.add_add]
    generalize a.add (i * 3) = q
    unfold Addr.add
    simp
  refine ⟨a, A', n', c', ha, hk, hc 0 _ rfl, ?_, ?_⟩
  · rw [← e 0]; exact hc 1 _ rfl
  · rw [← e 1]; exact hc 2 _ rfl

set_option maxHeartbeats 2000000 in
set_option maxRecDepth 100000 in
theorem alike_any {R R' : Nat → Prop} {xs : List Pk} {A A' : Option Addr} {n c n' c' : Nat} {w : World} (h : Ty.At pkK w R A n c xs) (h' : Ty.At pkK w R' A' n' c' xs) (hl : xs.length ≤ 5000) :
    Calls Try.prog 34 #[.slice A n c, .slice A' n' c'] w fun e w' => e = .returned (.bool true) ∧ Chg (fun _ => False) w w' := by
  have H := hid h
  have H' := hid h'
  have hnn : n' = n := h'.1.trans h.1.symm
  subst hnn
  have HN := hid h.1
  have hn5 : (n' : Int) ≤ 5000 := by have := h.1; omega
  clear h h'
  go_enter Try.func34, Try.ntmps34
  go_wp2_with fail
  go_loopw [14] (fun i wr => ∃ k : Nat, k ≤ n' ∧ i = .int .i64 k ∧ Chg (fun _ => False) w wr) (fun i _ => n' - (intOf i).toNat)
  case atStart => exact ⟨0, Nat.zero_le _, rfl, Chg.refl _ _⟩
  case round =>
    obtain ⟨k, hk, rfl, hC⟩ := hrel
    have HC := hid hC
    clear hC
    by_cases hlt : k < n'
    · obtain ⟨x, hx⟩ : ∃ x, xs[k]? = some x := ⟨_, List.getElem?_eq_getElem (by have := HN.out; omega)⟩
      obtain ⟨a, B, m, d, ha, hp, x0, x1, x2⟩ := pk_at (H.out.chg HC.out (fun _ _ h => h)) hx
      obtain ⟨a', B', m', d', ha', hp', y0, y1, y2⟩ := pk_at (H'.out.chg HC.out (fun _ _ h => h)) hx
      subst ha ha'
      obtain ⟨wa, hwa⟩ : ∃ wa, wa = wr.alloc (.cells #[.int .i64 x.src, .int .i64 x.dst, .slice B m d] 38) := ⟨_, rfl⟩
      have CA := hid (show Chg (fun _ => False) wr wa by rw [hwa]; exact (Chg.refl _ wr).alloc _)
      have BA := hid (show wa.heap[wr.heap.size]? = some (.cells #[.int .i64 x.src, .int .i64 x.dst, .slice B m d] 38 (0, 0)) by rw [hwa]; exact blk_new wr _)
      have HP := hid hp
      have HP' := hid hp'
      have z0 : ∀ wx, Chg (fun _ => False) wa wx → wx.cell? (a'.add (k * 3)) = some (.int .i64 x.src) := fun wx h => h.cell (CA.out.cell y0 (fun h => h)) (fun h => h)
      have z1 : ∀ wx, Chg (fun _ => False) wa wx → wx.cell? ⟨(a'.add (k * 3)).block, (a'.add (k * 3)).off + 1, none⟩ = some (.int .i64 x.dst) := fun wx h => h.cell (CA.out.cell y1 (fun h => h)) (fun h => h)
      have z2 : ∀ wx, Chg (fun _ => False) wa wx → wx.cell? ⟨(a'.add (k * 3)).block, (a'.add (k * 3)).off + 2, none⟩ = some (.slice B' m' d') := fun wx h => h.cell (CA.out.cell y2 (fun h => h)) (fun h => h)
      have v0 : ∀ wx, Chg (fun _ => False) wa wx → wx.cell? ⟨wr.heap.size, 0, none⟩ = some (.int .i64 x.src) := fun wx h => h.cell (by rw [cellAt BA.out]; rfl) (fun h => h)
      have v1 : ∀ wx, Chg (fun _ => False) wa wx → wx.cell? ⟨wr.heap.size, 1, none⟩ = some (.int .i64 x.dst) := fun wx h => h.cell (by rw [cellAt BA.out]; rfl) (fun h => h)
      have v2 : ∀ wx, Chg (fun _ => False) wa wx → wx.cell? ⟨wr.heap.size, 2, none⟩ = some (.slice B m d) := fun wx h => h.cell (by rw [cellAt BA.out]; rfl) (fun h => h)
      clear hp hp' hx y0 y1 y2
      go_wp2_with fail
      rw [← hwa]
      clear hwa x0 x1 x2
      refine wpB_start (fun wx : World => Chg (fun _ => False) wa wx) (by kernel_rfl) ?_
      have hHeld : (fun wx : World => Chg (fun _ => False) wa wx) _ := (by first | assumption | exact Chg.drew (Chg.refl _ _) | (show _ ∧ _; refine ⟨?_, ?_⟩ <;> assumption) | (first | assumption | exact hHeld.trans h2 (fun _ h _ => h)))
      -- 0: t19 := load 38 t6 : 38
      refine wpB_take (i := 0) (v := ?_) (get_of_drop rfl) (by kernel_rfl) (by kernel_rfl) (by kernel_rfl) (by kernel_rfl) (fun _ _ _ h => h) (Or.inl ⟨by rfl, ?_⟩) hHeld ?_
      rotate_left
      · (intro w hSw; (try dsimp only at hSw); go_simp <;> with_reducible rfl)
      try simp only [Act.put, List.setIfInBounds_toArray, List.set_cons_zero, List.set_cons_succ]
      -- 1: t20 := move t1 : 57
      refine wpB_take (i := 1) (v := ?_) (get_of_drop rfl) (by kernel_rfl) (by kernel_rfl) (by kernel_rfl) (by kernel_rfl) (fun _ _ _ h => h) (Or.inl ⟨by rfl, ?_⟩) hHeld ?_
      rotate_left
      · (intro w hSw; (try dsimp only at hSw); go_simp <;> with_reducible rfl)
      try simp only [Act.put, List.setIfInBounds_toArray, List.set_cons_zero, List.set_cons_succ]
      -- 2: t21 := move t5 : 3
      refine wpB_take (i := 2) (v := ?_) (get_of_drop rfl) (by kernel_rfl) (by kernel_rfl) (by kernel_rfl) (by kernel_rfl) (fun _ _ _ h => h) (Or.inl ⟨by rfl, ?_⟩) hHeld ?_
      rotate_left
      · (intro w hSw; (try dsimp only at hSw); go_simp <;> with_reducible rfl)
      try simp only [Act.put, List.setIfInBounds_toArray, List.set_cons_zero, List.set_cons_succ]
      -- 3: t22 := indexAddr 57 t20 t21 : 0
      refine wpB_take (i := 3) (v := ?_) (get_of_drop rfl) (by kernel_rfl) (by kernel_rfl) (by kernel_rfl) (by kernel_rfl) (fun _ _ _ h => h) (Or.inl ⟨by rfl, ?_⟩) hHeld ?_
      rotate_left
      · (intro w hSw; (try dsimp only at hSw); go_simp <;> with_reducible rfl)
      try simp only [Act.put, List.setIfInBounds_toArray, List.set_cons_zero, List.set_cons_succ]
      -- 4: t23 := load 38 t22 : 38
      refine wpB_take (i := 4) (v := ?_) (get_of_drop rfl) (by kernel_rfl) (by kernel_rfl) (by kernel_rfl) (by kernel_rfl) (fun _ _ _ h => h) (Or.inl ⟨by rfl, ?_⟩) hHeld ?_
      rotate_left
      · (intro w hSw; (try dsimp only at hSw); go_simp <;> with_reducible rfl)
      try simp only [Act.put, List.setIfInBounds_toArray, List.set_cons_zero, List.set_cons_succ]
      -- 5: t24 := CALL fn30(t19, t23) : 4
      refine wpB_act (i := 5) (by kernel_rfl) (get_of_drop rfl) (fun K hK => ?_)
      go_simp
      refine (same_any (HP.out.chg (CA.out.drew) (fun _ _ h => h)) (HP'.out.chg (CA.out.drew) (fun _ _ h => h))).mono ?_
      rintro e w2 ⟨rfl, h2⟩
      refine hK.out _ _ ?_ (fun hHeld2 => ?_)
      · (first | assumption | exact hHeld.trans h2 (fun _ h _ => h))
      clear hHeld hK K
      have hHeld := hHeld2
      clear hHeld2
      try simp only [Act.put, List.setIfInBounds_toArray, List.set_cons_zero, List.set_cons_succ]
      -- 6: t25 := unOp UnOp.not 4 t24 : 4
      refine wpB_take (i := 6) (v := ?_) (get_of_drop rfl) (by kernel_rfl) (by kernel_rfl) (by kernel_rfl) (by kernel_rfl) (fun _ _ _ h => h) (Or.inl ⟨by rfl, ?_⟩) hHeld ?_
      rotate_left
      · (intro w hSw; (try dsimp only at hSw); go_simp <;> with_reducible rfl)
      try simp only [Act.put, List.setIfInBounds_toArray, List.set_cons_zero, List.set_cons_succ]
      refine wpB_done (by kernel_rfl) ?_ _
      have HE := hid (HC.out.trans (CA.out.trans hHeld (fun _ h _ => h)) (fun _ h _ => h))
      clear hHeld h2 z0 z1 z2 v0 v1 v2
      go_wp2_with fail
      go_roundw
      case measure => simp [intOf]; omega
      case rel => first | exact ⟨k + 1, by omega, by go_num, HE.out⟩ | ((repeat apply Exists.intro); exact ⟨⟨k + 1, by omega, by go_num, HE.out⟩, rfl⟩)
    · go_wp2_with fail
      go_ret
      exact ⟨rfl, HC.out⟩

set_option maxHeartbeats 2000000 in
set_option maxRecDepth 100000 in
theorem without_any {S D : Nat → Prop} {xs : List Pk} {A : Option Addr} {c i : Nat} {w : World} (h : Vec pkK 38 w S D (.slice A xs.length c) xs) (hi : i < xs.length) (hl : xs.length ≤ 5000) :
    Calls Try.prog 31 #[.slice A xs.length c, .int .i64 i] w fun e w' => ∃ v, e = .returned v ∧ Vec pkK 38 w' (fun k => w.heap.size ≤ k) D v (xs.eraseIdx i) ∧ Chg (fun _ => False) w w' := by
  have HV := hid h
  obtain ⟨cells, hown, hS, hrow⟩ := h
  obtain ⟨q1, q2, q3, hsee⟩ := own_at hown
  have hlen := hrow.1
  rw [pkK_sz] at hlen
  obtain ⟨i8, hi8, _, hz8, _⟩ := info_parts info38
  have hcut1 := fun W => cut_to (P := Try.prog) 57 38 .i64 Try.underlying57 hi8 A xs.length c i (by omega) W
  obtain ⟨A2, c2, hcut2, hsee2, hA2⟩ : ∃ A2 c2, (∀ W, (Instr.slice 57 (.slice A xs.length c) (some (.int .i64 ((i : Int) + 1))) none none).run Try.prog W = .ok (.slice A2 (xs.length - (i + 1)) c2) W) ∧ Sees w (fun k => (Value.slice A xs.length c).ownBlock = some k) A2 (cells.drop ((i + 1) * 3)) ∧ (xs.length - (i + 1) ≤ c2 ∧ (A2 = none → c2 = 0)) := by
    refine ⟨_, _, fun W => by rw [show (i : Int) + 1 = ((i + 1 : Nat) : Int) by omega]; exact cut_from (P := Try.prog) 57 38 .i64 Try.underlying57 hi8 3 hz8 A xs.length c (i + 1) (by omega) W, hsee.cut (by rw [hlen]; exact Nat.mul_le_mul_right _ q1) (by omega), by omega, fun h => ?_⟩
    split at h
    · omega
    · have := q3 (by simpa using h)
      omega
  have HROW := hid hrow
  have HSEE := hid hsee
  have HSEE2 := hid hsee2
  have HA2 := hid hA2
  have Q1 := hid q1
  have Q3 := hid q3
  have HLEN := hid hlen
  have hw : IntKind.i64.wrap ((i : Int) + 1) = (i : Int) + 1 := IntWalk.i64_in _ (by omega)
  clear hown hS hrow q1 q2 q3 hsee hsee2 hA2 hi8 hz8 hlen
  go_enter Try.func31, Try.ntmps31
  go_wp2_with fail
  refine wpB_start (fun _ : World => True) (by kernel_rfl) ?_
  have hHeld := trivial
  -- 1: t6 := move t0 : 57
  refine wpB_take (i := 1) (v := ?_) (get_of_drop rfl) (by kernel_rfl) (by kernel_rfl) (by kernel_rfl) (by kernel_rfl) (fun _ _ _ h => h) (Or.inl ⟨by rfl, ?_⟩) hHeld ?_
  rotate_left
  · (intro w hSw; (try dsimp only at hSw); go_simp <;> with_reducible rfl)
  try simp only [Act.put, List.setIfInBounds_toArray, List.set_cons_zero, List.set_cons_succ]
  -- 2: t7 := move t1 : 3
  refine wpB_take (i := 2) (v := ?_) (get_of_drop rfl) (by kernel_rfl) (by kernel_rfl) (by kernel_rfl) (by kernel_rfl) (fun _ _ _ h => h) (Or.inl ⟨by rfl, ?_⟩) hHeld ?_
  rotate_left
  · (intro w hSw; (try dsimp only at hSw); go_simp <;> with_reducible rfl)
  try simp only [Act.put, List.setIfInBounds_toArray, List.set_cons_zero, List.set_cons_succ]
  -- 3: t8 := slice 57 t6 none some t7 none : 57
  refine wpB_take (i := 3) (v := ?_) (get_of_drop rfl) (by kernel_rfl) (by kernel_rfl) (by kernel_rfl) (by kernel_rfl) (fun _ _ _ h => h) (Or.inl ⟨by rfl, ?_⟩) hHeld ?_
  rotate_left
  · (intro w hSw; (try dsimp only at hSw); go_simp <;> with_reducible rfl)
  try simp only [Act.put, List.setIfInBounds_toArray, List.set_cons_zero, List.set_cons_succ]
  -- 5: t10 := move t0 : 57
  refine wpB_take (i := 5) (v := ?_) (get_of_drop rfl) (by kernel_rfl) (by kernel_rfl) (by kernel_rfl) (by kernel_rfl) (fun _ _ _ h => h) (Or.inl ⟨by rfl, ?_⟩) hHeld ?_
  rotate_left
  · (intro w hSw; (try dsimp only at hSw); go_simp <;> with_reducible rfl)
  try simp only [Act.put, List.setIfInBounds_toArray, List.set_cons_zero, List.set_cons_succ]
  -- 6: t11 := move t1 : 3
  refine wpB_take (i := 6) (v := ?_) (get_of_drop rfl) (by kernel_rfl) (by kernel_rfl) (by kernel_rfl) (by kernel_rfl) (fun _ _ _ h => h) (Or.inl ⟨by rfl, ?_⟩) hHeld ?_
  rotate_left
  · (intro w hSw; (try dsimp only at hSw); go_simp <;> with_reducible rfl)
  try simp only [Act.put, List.setIfInBounds_toArray, List.set_cons_zero, List.set_cons_succ]
  -- 7: t12 := binOp BinOp.add 3 t11 #i64:1 3 : 3
  refine wpB_take (i := 7) (v := ?_) (get_of_drop rfl) (by kernel_rfl) (by kernel_rfl) (by kernel_rfl) (by kernel_rfl) (fun _ _ _ h => h) (Or.inl ⟨by rfl, ?_⟩) hHeld ?_
  rotate_left
  · (intro w hSw; (try dsimp only at hSw); go_simp <;> with_reducible rfl)
  try simp only [Act.put, List.setIfInBounds_toArray, List.set_cons_zero, List.set_cons_succ]
  -- 8: t13 := slice 57 t10 some t12 none none : 57
  refine wpB_take (i := 8) (v := ?_) (get_of_drop rfl) (by kernel_rfl) (by kernel_rfl) (by kernel_rfl) (by kernel_rfl) (fun _ _ _ h => h) (Or.inl ⟨by rfl, ?_⟩) hHeld ?_
  rotate_left
  · (intro w hSw; (try dsimp only at hSw); go_simp <;> with_reducible rfl)
  try simp only [Act.put, List.setIfInBounds_toArray, List.set_cons_zero, List.set_cons_succ]
  -- 0: t5 := buildSlice 57 0 [] : 57
  refine wpB_act (i := 0) (by kernel_rfl) (get_of_drop rfl) (fun K hK => ?_)
  go_simp
  refine hK.out _ _ ?_ (fun hHeld2 => ?_)
  · trivial
  clear hHeld hK K
  have hHeld := hHeld2
  clear hHeld2
  try simp only [Act.put, List.setIfInBounds_toArray, List.set_cons_zero, List.set_cons_succ]
  -- 4: t9 := append(t5, t8) types [57, 57] : 57
  refine wpB_act (i := 4) (by kernel_rfl) (get_of_drop rfl) (fun K hK => ?_)
  have C1 := hid (((Chg.refl (fun _ => False) w).alloc (.cells #[] 38)).drew)
  have VN : Vec pkK 38 (w.alloc (.cells #[] 38)).drew (fun k => w.heap.size ≤ k) D (.slice (some ⟨w.heap.size, 0, none⟩) 0 0) [] := ⟨[], World.ownsRow_lit (base := 0) (e := 38) (size := 3) w #[] 0 (Nat.zero_le _) (by simp [maxLen]) rfl, fun k hk => by simp [Value.ownBlock] at hk; omega, Ty.Row.nil _ _ _⟩
  refine vec_step (d := pkK) _ rfl (.tmp 5) (.tmp 8) 57 38 (.agg #[.int .i64 0, .int .i64 0, .slice none 0 0]) 40 rfl Try.underlying57 info38 rfl (by decide) (by decide) (.slice (some ⟨w.heap.size, 0, none⟩) 0 0) rfl VN A i c (ys := xs.take i) (news := cells.take (i * 3)) rfl Q3.out (by have := Q1.out; omega) (by rw [List.length_take]; omega) ((HSEE.out.take (i * 3)).chg C1.out (fun _ _ h => h)) (((HROW.out.take i).chg C1.out (fun _ _ h => h)).mono (fun k hk => ?_)) (by simp; omega) ?_
  · exact ⟨hk.1, fun e => by simp [Value.ownBlock] at e; have := hk.2.2; omega, by have := hk.2.2; simp; omega⟩
  intro A3 c3 w3 h3 h4
  have C3 := hid (C1.out.trans h4 (fun k hk hlt => by simp [Value.ownBlock] at hk; omega))
  refine hK.out _ _ ?_ (fun hHeld2 => ?_)
  · trivial
  clear hHeld hK K
  have hHeld := hHeld2
  clear hHeld2
  try simp only [Act.put, List.setIfInBounds_toArray, List.set_cons_zero, List.set_cons_succ]
  -- 9: t14 := append(t9, t13) types [57, 57] : 57
  refine wpB_act (i := 9) (by kernel_rfl) (get_of_drop rfl) (fun K hK => ?_)
  refine vec_step (d := pkK) _ rfl (.tmp 9) (.tmp 13) 57 38 (.agg #[.int .i64 0, .int .i64 0, .slice none 0 0]) 40 rfl Try.underlying57 info38 rfl (by decide) (by decide) (.slice A3 (([] : List Pk).length + i) c3) rfl h3 A2 (xs.length - (i + 1)) c2 (ys := xs.drop (i + 1)) (news := cells.drop ((i + 1) * 3)) rfl HA2.out.2 HA2.out.1 (by rw [List.length_drop]) (HSEE2.out.chg C3.out (fun _ _ h => h)) (((HROW.out.drop (i + 1)).chg C3.out (fun _ _ h => h)).mono (fun k hk => ?_)) (by simp; omega) ?_
  · exact ⟨hk.1, fun e => by
      have q := hk.2.2
      have c := C1.out.size
      rcases h3.inS k e with h | h <;> omega, by have := hk.2.2; have := C3.out.size; omega⟩
  intro A5 c5 w5 h5 h6
  have e5 : ([] ++ xs.take i).length + (xs.length - (i + 1)) = xs.length - 1 := by rw [List.nil_append, List.length_take]; omega
  rw [e5] at h5 ⊢
  refine hK.out _ _ ?_ (fun hHeld2 => ?_)
  · trivial
  clear hHeld hK K
  have hHeld := hHeld2
  clear hHeld2
  try simp only [Act.put, List.setIfInBounds_toArray, List.set_cons_zero, List.set_cons_succ]
  -- 10: t4 := assign t14 : 57
  refine wpB_take (i := 10) (v := ?_) (get_of_drop rfl) (by kernel_rfl) (by kernel_rfl) (by kernel_rfl) (by kernel_rfl) (fun _ _ _ h => h) (Or.inl ⟨by rfl, ?_⟩) hHeld ?_
  rotate_left
  · (intro w hSw; (try dsimp only at hSw); go_simp <;> with_reducible rfl)
  try simp only [Act.put, List.setIfInBounds_toArray, List.set_cons_zero, List.set_cons_succ]
  refine wpB_done (by kernel_rfl) ?_ _
  have HF := hid (show Vec pkK 38 w5 (fun k => w.heap.size ≤ k) D (.slice A5 (xs.length - 1) c5) (xs.eraseIdx i) by
    rw [List.eraseIdx_eq_take_drop_succ]
    refine (show Vec pkK 38 w5 _ D (.slice A5 (xs.length - 1) c5) (xs.take i ++ xs.drop (i + 1)) from h5).mono (fun k hk _ => ?_) (fun k hk _ => hk)
    have q1 := C3.out.size
    have q2 := C1.out.size
    rcases hk with (hk | hk) | hk <;> omega)
  have HG := hid (C3.out.trans h6 (fun k hk hlt => by
    have q2 := C1.out.size
    rcases h3.inS k hk with h | h <;> omega))
  clear h3 h4 h5 h6 hHeld
  go_wp2_with fail
  go_ret
  exact ⟨_, rfl, HF.out, HG.out⟩
end Go.Proofs.Ytmllakklhbmboaa.Po
