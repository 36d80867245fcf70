/- The contracts of slices.Delete at packets, and of Take. -/
import Derived.Test.YtmllakklhbmboaaPost
namespace Go.Proofs.Ytmllakklhbmboaa.Po
set_option linter.unusedVariables false
set_option linter.unusedSimpArgs false
open Go.RowKit Go.Proofs.Ytmllakklhbmboaa.C
attribute [local go_sem] max2_int min2_int max_two min_two

theorem new_any (w : World) : Calls Try.prog 20 #[] w fun e w' => e = .returned (.pointer (some ⟨w.heap.size, 0, none⟩)) ∧ PostAt w' (fun k => w.heap.size ≤ k) w.heap.size (.slice none 0 0) [] ∧ Chg (fun _ => False) w w' := by
  have HE := hid (show PostAt (w.alloc (.cells #[.slice none 0 0] 72)) (fun k => w.heap.size ≤ k) w.heap.size (.slice none 0 0) [] ∧ Chg (fun _ => False) w (w.alloc (.cells #[.slice none 0 0] 72)) from ⟨⟨Nat.le_refl _, blk_new _ _, Vec.nil _ _ _ _ _⟩, (Chg.refl _ w).alloc _⟩)
  go_enter Try.func20, Try.ntmps20
  go_wp2
  go_ret
  exact ⟨rfl, HE.out⟩

theorem room_step {P : Program} {ops : Array Oper} {o : Oper} {a : Act} {Q : Exit → Act → World → Prop} {E : Prop} (w : World) {K : Act → World → Prop} (hgd : o.guard = none) (s x : Operand) (t e : TypeId) (z : Value) (size bytes : Nat)
    (ho : o.op = .call { callee := .builtin .append, args := #[s, x], argTypes := #[t, t] }) (ht : P.underlying t = some (.slice e)) (hinfo : (P.info? e).map (fun i => (i.zero, i.size, i.bytes)) = some (some z, size, bytes))
    (b cap : Nat) (cur : Array Value) (hb : w.heap[b]? = some (.cells cur e (0, 0))) (hcur : cur.size = cap * size) (n : Nat) (hs : a.eval s = .slice (some ⟨b, 0, none⟩) n cap) (A : Option Addr) (m c : Nat) (hx : a.eval x = .slice A m c) (news : List Value) (R : Nat → Prop) (hA : A = none → c = 0) (hmc : m ≤ c) (hl : news.length = m * size) (hsee : Sees w R A news) (h1 : ∀ u ∈ news, u.oneCell' = true) (hroom : n + m ≤ cap)
    (h : K (a.put o.dst (.slice (some ⟨b, 0, none⟩) (n + m) cap)) (w.setCells b (n * size) news)) :
    if Region.wanted o (yielded ops a.tmps) = true then Oper.wp P o a w K Q else E := by
  have hw : Region.wanted o (yielded ops a.tmps) = true := by simp [Region.wanted, hgd]
  rw [if_pos hw]
  have hr := room_run (P := P) w t o.type e z size bytes ht hinfo hb hcur n A m c news R hA hmc hl hsee h1 hroom
  unfold Oper.wp execOp
  simp only [ho, resolve, invoke, builtin, Sem.run_bind, Sem.run_pure, Result.andThen_ok, List.map_toArray, List.map_cons, List.map_nil, hs, hx, hr]
  exact h

/-- The cells of a row without one of its elements. -/
theorem Row_erase {α : Type} {d : Ty α} {w : World} {S : Nat → Prop} {xs : List α} {cells : List Value} (h : Ty.Row d w S xs cells) (i : Nat) (hi : i < xs.length) : Ty.Row d w S (xs.eraseIdx i) (cells.take (i * d.sz) ++ cells.drop ((i + 1) * d.sz)) := by
  rw [List.eraseIdx_eq_take_drop_succ]
  exact (h.take i).append (h.drop (i + 1))

set_option maxHeartbeats 2000000 in
set_option maxRecDepth 100000 in
theorem delete_any (S D : Nat → Prop) (b cap : Nat) (ps : List Pk) (i : Nat) (w : World) (h : Vec pkK 38 w S D (.slice (some ⟨b, 0, none⟩) ps.length cap) ps) (hi : i < ps.length) (hok : ps.length ≤ 4096) :
    Calls Try.prog 41 #[.slice (some ⟨b, 0, none⟩) ps.length cap, .int .i64 i, .int .i64 ((i : Int) + 1)] w fun e w' => e = .returned (.slice (some ⟨b, 0, none⟩) (ps.length - 1) cap) ∧ Vec pkK 38 w' S D (.slice (some ⟨b, 0, none⟩) (ps.length - 1) cap) (ps.eraseIdx i) ∧ Chg (fun k => k = b) w w' := by
  have H := hid h
  obtain ⟨cells, h1, h2, h3⟩ := h
  obtain ⟨hlen, hrow⟩ := h1
  rcases hrow with ⟨hv, _⟩ | ⟨g, cap', cur, hv, _, hb, q1, q2, q3, q4⟩
  · cases hv
  injection hv with e1 e2 e3
  injection e1 with e1
  injection e1 with e1
  subst e1 e3
  obtain ⟨n, hn⟩ : ∃ n, n = ps.length := ⟨_, rfl⟩
  rw [← hn] at hi q1 q4 hlen hok ⊢
  have HN := hid hn
  simp only [pkK_sz] at hlen q3 q4
  clear hn
  obtain ⟨i8, hi8, _, hz8, _⟩ := info_parts info38
  have hcut1 := fun W => cut_to (P := Try.prog) 57 38 .i64 Try.underlying57 hi8 (some ⟨b, 0, none⟩) n cap i (by omega) W
  have hcut2 := fun W => cut_from (P := Try.prog) 57 38 .i64 Try.underlying57 hi8 3 hz8 (some ⟨b, 0, none⟩) n cap (i + 1) (by omega) W
  have hcut3 := fun W => cut_mid (P := Try.prog) 57 38 .i64 .i64 Try.underlying57 hi8 3 hz8 (some ⟨b, 0, none⟩) (n - 1) cap (n - 1) n (by omega) (by omega) W
  have hsee : Sees w (fun k => k = b) (some ⟨b, 0, none⟩) cells := by
    refine .inr ⟨_, rfl, rfl, fun j u hj => ?_⟩
    rw [add_at, Nat.zero_add, cellAt hb]
    rw [← q4, List.getElem?_take] at hj
    split at hj
    · simpa using hj
    · cases hj
  have hsee2 := hsee.cut (c := cap) (m := i + 1) (size := 3) (by omega) (by omega)
  generalize hA2 : (if cap = i + 1 then (some ⟨b, 0, none⟩ : Option Addr) else (some ⟨b, 0, none⟩ : Option Addr).map (·.add ((i + 1) * 3))) = A2 at hsee2 hcut2
  have hA2n : A2 = none → cap - (i + 1) = 0 := by
    intro h
    rw [h] at hA2
    split at hA2
    · cases hA2
    · cases hA2
  have hcut2' : ∀ W, (Instr.slice 57 (.slice (some ⟨b, 0, none⟩) n cap) (some (.int .i64 ((i : Int) + 1))) none none).run Try.prog W = .ok (.slice A2 (n - (i + 1)) (cap - (i + 1))) W := fun W => by
    have q := hcut2 W
    rw [show ((i + 1 : Nat) : Int) = (i : Int) + 1 by omega] at q
    exact q
  clear hcut2
  have HS2 := hid hsee2
  have HB := hid hb
  have HA2 := hid hA2n
  have Q3 := hid q3
  have Q4 := hid q4
  have HL := hid hlen
  have H3 := hid h3
  have H2 := hid h2
  have hlt1 : (i : Int) ≤ ((i + 1 : Nat) : Int) := by omega
  have hlt2 : ((i + 1 : Nat) : Int) ≤ (n : Int) := by omega
  have hlt3 : (n : Int) ≤ (cap : Int) := by omega
  have hne : ((i : Int) == ((i + 1 : Nat) : Int)) = false := by simp; omega
  clear hsee hsee2 hb hA2 hA2n q3 q4 hlen h3 h2 hi8 hz8
  go_enter Try.func41, Try.ntmps41
  go_wp2_with fail
  refine wpB_start (fun _ : World => True) (by kernel_rfl) ?_
  have hHeld := trivial
  -- 0: t20 := move t0 : 57
  refine wpB_take (i := 0) (v := ?_) (get_of_drop rfl) (by kernel_rfl) (by kernel_rfl) (by kernel_rfl) (by kernel_rfl) (fun _ _ _ h => h) (Or.inl ⟨by rfl, ?_⟩) hHeld ?_
  rotate_left
  · (intro w hSw; (try dsimp only at hSw); go_simp <;> with_reducible rfl)
  try simp only [Act.put, List.setIfInBounds_toArray, List.set_cons_zero, List.set_cons_succ]
  -- 1: t21 := move t1 : 3
  refine wpB_take (i := 1) (v := ?_) (get_of_drop rfl) (by kernel_rfl) (by kernel_rfl) (by kernel_rfl) (by kernel_rfl) (fun _ _ _ h => h) (Or.inl ⟨by rfl, ?_⟩) hHeld ?_
  rotate_left
  · (intro w hSw; (try dsimp only at hSw); go_simp <;> with_reducible rfl)
  try simp only [Act.put, List.setIfInBounds_toArray, List.set_cons_zero, List.set_cons_succ]
  -- 2: t22 := slice 57 t20 none some t21 none : 57
  refine wpB_take (i := 2) (v := ?_) (get_of_drop rfl) (by kernel_rfl) (by kernel_rfl) (by kernel_rfl) (by kernel_rfl) (fun _ _ _ h => h) (Or.inl ⟨by rfl, ?_⟩) hHeld ?_
  rotate_left
  · (intro w hSw; (try dsimp only at hSw); go_simp <;> with_reducible rfl)
  try simp only [Act.put, List.setIfInBounds_toArray, List.set_cons_zero, List.set_cons_succ]
  -- 3: t23 := move t0 : 57
  refine wpB_take (i := 3) (v := ?_) (get_of_drop rfl) (by kernel_rfl) (by kernel_rfl) (by kernel_rfl) (by kernel_rfl) (fun _ _ _ h => h) (Or.inl ⟨by rfl, ?_⟩) hHeld ?_
  rotate_left
  · (intro w hSw; (try dsimp only at hSw); go_simp <;> with_reducible rfl)
  try simp only [Act.put, List.setIfInBounds_toArray, List.set_cons_zero, List.set_cons_succ]
  -- 4: t24 := move t2 : 3
  refine wpB_take (i := 4) (v := ?_) (get_of_drop rfl) (by kernel_rfl) (by kernel_rfl) (by kernel_rfl) (by kernel_rfl) (fun _ _ _ h => h) (Or.inl ⟨by rfl, ?_⟩) hHeld ?_
  rotate_left
  · (intro w hSw; (try dsimp only at hSw); go_simp <;> with_reducible rfl)
  try simp only [Act.put, List.setIfInBounds_toArray, List.set_cons_zero, List.set_cons_succ]
  -- 5: t25 := slice 57 t23 some t24 none none : 57
  refine wpB_take (i := 5) (v := ?_) (get_of_drop rfl) (by kernel_rfl) (by kernel_rfl) (by kernel_rfl) (by kernel_rfl) (fun _ _ _ h => h) (Or.inl ⟨by rfl, ?_⟩) hHeld ?_
  rotate_left
  · (intro w hSw; (try dsimp only at hSw); go_simp <;> with_reducible rfl)
  try simp only [Act.put, List.setIfInBounds_toArray, List.set_cons_zero, List.set_cons_succ]
  -- 6: t26 := append(t22, t25) types [57, 57] : 57 (BARRIER)
  refine wpB_bar (i := 6) (by kernel_rfl) (get_of_drop rfl) (by kernel_rfl) (fun K hK => ?_)
  refine room_step _ rfl (.tmp 22) (.tmp 25) 57 38 (.agg #[.int .i64 0, .int .i64 0, .slice none 0 0]) 3 40 rfl Try.underlying57 info38 b cap cur HB.out Q3.out i rfl A2 (n - (i + 1)) (cap - (i + 1)) rfl (cells.drop ((i + 1) * 3)) _ HA2.out (by omega) (by rw [List.length_drop, HL.out]; omega) (HS2.out.chg ((Chg.refl (fun _ => False) w).drew) (fun _ _ h => h)) ?_ (by omega) ?_
  · intro u hu; exact H3.out.one u (List.mem_of_mem_drop hu)
  obtain ⟨cur2, hb2, hl2⟩ := setCells_row (g := b) (cells.drop ((i + 1) * 3)) (i * 3) w.drew cur HB.out (by rw [List.length_drop, HL.out, Q3.out]; omega)
  have C2 := hid ((Chg.refl (fun k => k = b) w).drew.trans (setCells_chg b (cells.drop ((i + 1) * 3)) (i * 3) w.drew) (fun _ h _ => h))
  generalize w.drew.setCells b (i * 3) (cells.drop ((i + 1) * 3)) = w2 at hb2 C2 ⊢
  refine hK.out _ _ (fun _ : World => True) ?_
  clear hHeld hK K
  have hHeld := trivial
  try simp only [Act.put, List.setIfInBounds_toArray, List.set_cons_zero, List.set_cons_succ]
  -- 7: t0 := assign t26 : 57
  refine wpB_take (i := 7) (v := ?_) (get_of_drop rfl) (by kernel_rfl) (by kernel_rfl) (by kernel_rfl) (by kernel_rfl) (fun _ _ _ h => h) (Or.inl ⟨by rfl, ?_⟩) hHeld ?_
  rotate_left
  · (intro w hSw; (try dsimp only at hSw); go_simp <;> with_reducible rfl)
  try simp only [Act.put, List.setIfInBounds_toArray, List.set_cons_zero, List.set_cons_succ]
  refine wpB_done (by kernel_rfl) ?_ _
  rw [show i + (n - (i + 1)) = n - 1 by omega]
  have hsz2 : cur2.size = cap * 3 := by
    rw [← Array.length_toList, hl2]
    simp only [List.length_append, List.length_take, List.length_drop, Array.length_toList, Q3.out, HL.out]
    omega
  obtain ⟨zs, hzl, hclear⟩ := clear_run (P := Try.prog) w2 57 38 0 (.agg #[.int .i64 0, .int .i64 0, .slice none 0 0]) 3 Try.underlying57 (fun w => by kernel_rfl) rfl (by decide) (by decide) hb2 ((n - 1) * 3) (n - (n - 1)) (cap - (n - 1)) (by omega) (by rw [hsz2]; omega)
  obtain ⟨cur3, hb3, hl3⟩ := setCells_row (g := b) zs ((n - 1) * 3) w2 cur2 hb2 (by rw [hzl, hsz2]; omega)
  have C3 := hid (C2.out.trans (setCells_chg b zs ((n - 1) * 3) w2) (fun _ h _ => h))
  have hcut3' : ∀ W, (Instr.slice 57 (.slice (some ⟨b, 0, none⟩) (n - 1) cap) (some (.int .i64 ((n - 1 : Nat) : Int))) (some (.int .i64 (n : Int))) none).run Try.prog W = .ok (.slice (some ⟨b, (n - 1) * 3, none⟩) (n - (n - 1)) (cap - (n - 1))) W := fun W => by
    have q := hcut3 W
    rw [if_neg (by omega)] at q
    simpa [add_at] using q
  generalize w2.setCells b ((n - 1) * 3) zs = w3 at hb3 C3 hclear
  clear hcut3 hcut1 hcut2'
  go_wp2_with fail
  go_ret
  refine ⟨rfl, ⟨cells.take (i * 3) ++ cells.drop ((i + 1) * 3), ⟨?_, .inr ⟨b, cap, cur3, ?_, Nat.zero_le _, hb3, by rw [List.length_eraseIdx_of_lt (by have := HN.out; omega), ← HN.out]; omega, q2, ?_, ?_⟩⟩, H2.out, ?_⟩, C3.out⟩
  · rw [List.length_append, List.length_take, List.length_drop, HL.out, List.length_eraseIdx_of_lt (by have := HN.out; omega), ← HN.out, pkK_sz]; omega
  · rw [List.length_eraseIdx_of_lt (by have := HN.out; omega), ← HN.out]
  · rw [pkK_sz, ← Array.length_toList, hl3]
    simp only [List.length_append, List.length_take, List.length_drop, Array.length_toList, hsz2, hzl]
    omega
  · rw [List.length_eraseIdx_of_lt (by have := HN.out; omega), ← HN.out, pkK_sz, hl3, List.append_assoc, List.take_append_of_le_length (by rw [List.length_take, Array.length_toList, hsz2]; omega), List.take_take, Nat.min_self, hl2]
    have e1 : cur.toList.take (i * 3) = cells.take (i * 3) := by rw [← Q4.out, List.take_take]; congr 1; omega
    rw [e1, List.take_append_of_le_length (by rw [List.length_append, List.length_take, List.length_drop, HL.out]; omega), List.take_of_length_le (by rw [List.length_append, List.length_take, List.length_drop, HL.out]; omega)]
  · have q := (Row_erase H3.out i (by have := HN.out; omega)).chg C3.out (fun k hk e => hk.2.1 (by rw [e]; rfl))
    exact q.mono (fun k hk => ⟨hk.1, fun e => hk.2.1 e, Nat.lt_of_lt_of_le hk.2.2 C3.out.size⟩)

theorem PostAt.putS {w w2 : World} {S : Nat → Prop} {g : Nat} {v v' : Value} {ps ps' : List Pk} (h : PostAt w S g v ps) (hc : Chg (fun k => v.ownBlock = some k) w w2) (h1 : Vec pkK 38 w2 S (fun k => S k ∧ k ≠ g) v' ps') :
    PostAt (w2.setCell ⟨g, 0, none⟩ v') S g v' ps' ∧ Chg S w (w2.setCell ⟨g, 0, none⟩ v') := by
  have hb := hc.blk h.blk h.ne
  have hne := h1.ne hb (by decide)
  have hs : Chg (fun k => k = g) w2 (w2.setCell ⟨g, 0, none⟩ v') := (Chg.refl (fun k => k = g) w2).set (fun _ => rfl) _
  exact ⟨⟨h.inS, blk_set hb 0 v', h1.chg hs (fun k hk e => hne (by rw [← e]; exact hk)) (fun k hk _ _ e => hk.2 e)⟩, (hc.mono (fun k hk _ => h.vec.inS k hk)).trans hs (fun k hk _ => by subst hk; exact h.inS)⟩
def takeP (ps : List Pk) (i : Int) : List Pk × Option Pk := match pickP ps i with | some x => (ps.eraseIdx i.toNat, some x) | none => (ps, none)
/-- What Take tells: the packet, or none. -/
def TakeTo (S : Nat → Prop) (g : Nat) (ps : List Pk) (r : Option Pk) (w : World) (e : Ending) (w' : World) : Prop :=
  ∃ A n c, e = .returned (.tuple #[.agg #[.int .i64 (r.getD ⟨0, 0, []⟩).src, .int .i64 (r.getD ⟨0, 0, []⟩).dst, .slice A n c], .int .i64 (if r.isSome then 0 else 60)]) ∧ PkAt w' (fun k => S k ∨ w.heap.size ≤ k) (r.getD ⟨0, 0, []⟩) A n c ∧ UpdP S g ps w w'
set_option maxHeartbeats 2000000 in
theorem take_any (S : Nat → Prop) (g : Nat) (v : Value) (ps : List Pk) (i : Int) (w : World) (h : PostAt w S g v ps) (hok : ps.length ≤ 4096) :
    Calls Try.prog 23 #[.pointer (some ⟨g, 0, none⟩), .int .i64 i] w (TakeTo S g (takeP ps i).1 (takeP ps i).2 w) := by
  have H := hid (h.mono (S' := fun k => S k ∧ k < w.heap.size) (fun k h1 h2 => ⟨h1, h2⟩))
  have HOK := hid hok
  obtain ⟨B, d, hv⟩ := h.vec.form
  subst hv
  have c0 := h.cell
  have hgb : g < w.heap.size := lt_of_blk h.blk
  have hgb2 : g ≠ w.heap.size := by omega
  clear h
  by_cases ht : 0 ≤ i ∧ i < ps.length
  · obtain ⟨k, rfl⟩ := Int.eq_ofNat_of_zero_le ht.1
    have hk : k < ps.length := by omega
    obtain ⟨g2, cs, hB, hS2, hg2, hK, hc⟩ := H.out.vec.get (by decide) (List.getElem?_eq_getElem hk)
    obtain ⟨A, n, c, rfl, hx⟩ := pk_open hK
    subst hB
    have E := hid (show takeP ps (k : Int) = (ps.eraseIdx k, some ps[k]) by unfold takeP; rw [pickP_yes hk]; simp)
    generalize ps[k] = x at hx hc E
    have ht' : thereB ps.length (k : Int) = true := by simpa [thereB] using ht
    have HT := hid ht'
    have HX := hid hx
    obtain ⟨wb, hwb⟩ : ∃ wb, wb = w.alloc (.cells #[.int .i64 0, .int .i64 0, .slice none 0 0] 38) := ⟨_, rfl⟩
    obtain ⟨wc, hwc⟩ : ∃ wc, wc = wb.alloc (.cells #[.int .i64 x.src, .int .i64 x.dst, .slice A n c] 38) := ⟨_, rfl⟩
    have CB := hid (show Chg (fun _ => False) w wb by rw [hwb]; exact (Chg.refl _ w).alloc _)
    have CC := hid (show Chg (fun _ => False) wb wc by rw [hwc]; exact (Chg.refl _ wb).alloc _)
    have BB := hid (show wc.heap[w.heap.size]? = some (.cells #[.int .i64 0, .int .i64 0, .slice none 0 0] 38 (0, 0)) by rw [hwc, hwb]; exact blk_alloc (blk_new w _) _)
    have BC := hid (show wc.heap[w.heap.size + 1]? = some (.cells #[.int .i64 x.src, .int .i64 x.dst, .slice A n c] 38 (0, 0)) by
      have := blk_new wb (.cells #[.int .i64 x.src, .int .i64 x.dst, .slice A n c] 38)
      rw [hwc]
      have e : wb.heap.size = w.heap.size + 1 := by rw [hwb]; simp
      rwa [e] at this)
    have y0 : wb.cell? ⟨g, 0, none⟩ = some (.slice (some ⟨g2, 0, none⟩) ps.length d) := CB.out.cell H.out.cell (fun h => h)
    have x0 : wb.cell? ⟨g2, k * 3, none⟩ = some (.int .i64 x.src) := CB.out.cell (hc 0 _ rfl) (fun h => h)
    have x1 : wb.cell? ⟨g2, k * 3 + 1, none⟩ = some (.int .i64 x.dst) := CB.out.cell (hc 1 _ rfl) (fun h => h)
    have x2 : wb.cell? ⟨g2, k * 3 + 2, none⟩ = some (.slice A n c) := CB.out.cell (hc 2 _ rfl) (fun h => h)
    have hgw : g ≠ w.heap.size + 1 := by omega
    have hsz : wb.heap.size = w.heap.size + 1 := by rw [hwb]; simp
    clear ht ht' hx hc hK
    go_enter Try.func23, Try.ntmps23
    go_wp2_with fail
    rw [← hwb]
    clear hwb
    refine (there_any _ g _ ps _ wb (H.out.chg CB.out (fun _ _ _ h => h))).mono ?_
    rintro e w2 ⟨rfl, rfl⟩
    rw [HT.out]
    go_wp2_with fail
    rw [← hwc]
    clear hwc x0 x1 x2
    have hne2 : g ≠ g2 := fun e => H.out.ne (by rw [e]; rfl)
    refine (delete_any _ _ g2 d ps k wc ((H.out.vec.chg CB.out (fun _ _ h => h) (fun _ _ _ _ h => h)).chg CC.out (fun _ _ h => h) (fun _ _ _ _ h => h)) hk hok).mono ?_
    rintro e w3 ⟨rfl, hV, hC⟩
    have HV := hid hV
    have HC := hid hC
    have bg := hC.blk (CC.out.blk (CB.out.blk H.out.blk (fun h => h)) (fun h => h)) hne2
    have bb := hC.blk BB.out (by omega)
    have bc := hC.blk BC.out (by omega)
    have z0 : w3.cell? ⟨w.heap.size + 1, 0, none⟩ = some (.int .i64 x.src) := by rw [cellAt bc]; rfl
    have z1 : w3.cell? ⟨w.heap.size + 1, 1, none⟩ = some (.int .i64 x.dst) := by rw [cellAt bc]; rfl
    have z2 : w3.cell? ⟨w.heap.size + 1, 2, none⟩ = some (.slice A n c) := by rw [cellAt bc]; rfl
    have y0 : w3.cell? ⟨g, 0, none⟩ = some (.slice (some ⟨g2, 0, none⟩) ps.length d) := by rw [cellAt bg]; rfl
    have b0 : w3.cell? ⟨w.heap.size, 0, none⟩ = some (.int .i64 0) := by rw [cellAt bb]; rfl
    have b1 : w3.cell? ⟨w.heap.size, 1, none⟩ = some (.int .i64 0) := by rw [cellAt bb]; rfl
    have b2 : w3.cell? ⟨w.heap.size, 2, none⟩ = some (.slice none 0 0) := by rw [cellAt bb]; rfl
    have fg := freeAt bg 0
    have fb0 := freeAt bb 0
    have fb1 := freeAt bb 1
    have fb2 := freeAt bb 2
    have CF := hid ((((CB.out.trans CC.out (fun _ h _ => h)).mono (S' := fun k => k = g2) (fun _ h _ => h.elim)).trans hC (fun _ h _ => h)))
    have HPUT := hid (H.out.putS (w2 := w3) (v' := .slice (some ⟨g2, 0, none⟩) (ps.length - 1) d) (CF.out.mono (fun k h _ => by rw [h]; rfl)) hV)
    have hbb4 := blk_far bb (p := ⟨g, 0, none⟩) (show w.heap.size ≠ g by omega) (.slice (some ⟨g2, 0, none⟩) (ps.length - 1) d)
    clear hV hC bg bc
    go_wp2_with fail
    have hb5 := blk_set (blk_set (blk_set hbb4 0 (.int .i64 x.src)) 1 (.int .i64 x.dst)) 2 (.slice A n c)
    have hcc : Chg (fun k => k = w.heap.size) (w3.setCell ⟨g, 0, none⟩ (.slice (some ⟨g2, 0, none⟩) (ps.length - 1) d)) ((((w3.setCell ⟨g, 0, none⟩ (.slice (some ⟨g2, 0, none⟩) (ps.length - 1) d)).setCell ⟨w.heap.size, 0, none⟩ (.int .i64 x.src)).setCell ⟨w.heap.size, 1, none⟩ (.int .i64 x.dst)).setCell ⟨w.heap.size, 2, none⟩ (.slice A n c)) :=
      (((Chg.refl (fun k => k = w.heap.size) _).set (fun _ => rfl) _).set (fun _ => rfl) _).set (fun _ => rfl) _
    obtain ⟨wg, hwg⟩ : ∃ wg, wg = w3.setCell ⟨g, 0, none⟩ (.slice (some ⟨g2, 0, none⟩) (ps.length - 1) d) := ⟨_, rfl⟩
    rw [← hwg] at hb5 hcc HPUT ⊢
    have CG := hid (show Chg (fun k => k = g) w3 wg by rw [hwg]; exact (Chg.refl (fun k => k = g) w3).set (fun _ => rfl) _)
    clear hwg z0 z1 z2 y0 b0 b1 b2 fg fb0 fb1 fb2 bb hbb4
    generalize (((wg.setCell ⟨w.heap.size, 0, none⟩ (.int .i64 x.src)).setCell ⟨w.heap.size, 1, none⟩ (.int .i64 x.dst)).setCell ⟨w.heap.size, 2, none⟩ (.slice A n c)) = W at hb5 hcc ⊢
    have r0 : W.cell? ⟨w.heap.size, 0, none⟩ = some (.int .i64 x.src) := by rw [cellAt hb5]; rfl
    have r1 : W.cell? ⟨w.heap.size, 1, none⟩ = some (.int .i64 x.dst) := by rw [cellAt hb5]; rfl
    have r2 : W.cell? ⟨w.heap.size, 2, none⟩ = some (.slice A n c) := by rw [cellAt hb5]; rfl
    refine bodyPost_ret (v := .tuple #[.agg #[.int .i64 x.src, .int .i64 x.dst, .slice A n c], .int .i64 0]) (by simp [results, Try.results23, go_sem, r0, r1, r2]) rfl ?_
    rw [E.out]
    obtain ⟨hp1, hp2⟩ := HPUT.out
    refine ⟨A, n, c, rfl, (((HX.out.chg CF.out (fun k hk e => hk.2.1 e)).chg CG.out (fun k hk e => hk.1.2 e)).chg hcc (fun k hk e => by have := hk.2.2; omega)).mono (fun k hk => .inl hk.1.1.1), .slice (some ⟨g2, 0, none⟩) (ps.length - 1) d, (hp1.chg hcc (fun k hk hl e => ?_)).mono (fun k hk _ => .inl hk.1), (hp2.mono (fun k hk _ => hk.1)).trans hcc (fun k hk hlt => by omega)⟩
    have := hk.2
    omega
  · have E := hid (show takeP ps i = (ps, none) by unfold takeP; rw [pickP_no ht])
    have ht' : thereB ps.length i = false := by simpa [thereB] using ht
    have HT := hid ht'
    clear ht ht'
    go_enter Try.func23, Try.ntmps23
    go_wp2_with fail
    refine (there_any _ g _ ps i _ (H.out.chg ((Chg.refl (fun _ => False) w).alloc _) (fun _ _ _ h => h))).mono ?_
    rintro e w2 ⟨rfl, rfl⟩
    rw [HT.out]
    go_wp2_with fail
    refine bodyPost_ret (v := .tuple #[.agg #[.int .i64 0, .int .i64 0, .slice none 0 0], .int .i64 60]) (by simp [results, Try.results23, go_sem]) rfl ?_
    rw [E.out]
    exact ⟨none, 0, 0, rfl, ⟨rfl, rfl, rfl, Nat.le_refl _, by simp [maxLen], fun _ => rfl, [], .nil _ _ _, Ty.Row.nil _ _ _⟩, (H.out.mono (fun k h _ => h.1)).same ((Chg.refl _ w).alloc _)⟩
end Go.Proofs.Ytmllakklhbmboaa.Po
