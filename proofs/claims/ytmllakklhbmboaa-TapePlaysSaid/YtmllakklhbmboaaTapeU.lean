/- The contract of the twin's step. -/
import Derived.Test.YtmllakklhbmboaaTapeT
import Derived.Test.YtmllakklhbmboaaTy
import Derived.Test.YtmllakklhbmboaaBar
namespace Go.Proofs.Ytmllakklhbmboaa.T
set_option linter.unusedVariables false
set_option linter.unusedSimpArgs false
open Go.RowKit Go.Proofs.Ytmllakklhbmboaa.C
attribute [local go_sem] max2_int min2_int max_two min_two

def Stepped (S : Nat → Prop) (g : Nat) (r : TW × Int) (w : World) (e : Ending) (w' : World) : Prop :=
  ∃ vs' vl', e = .returned (.int .i64 r.2) ∧ TwAt w' (fun k => S k ∨ w.heap.size ≤ k) g vs' vl' r.1 ∧ Chg S w w'

/-- The block itself is written. -/
theorem TwAt.re {w w' : World} {S : Nat → Prop} {g : Nat} {cs : Array Value} {vs vl : Value} {t : TW} (hbk : w.heap[g]? = some (.cells cs 53 (0, 0))) (hc : Chg (fun k => k = g) w w') (hb : w'.heap[g]? = some (.cells (wcells vs vl t) 53 (0, 0))) (hg : S g)
    (hs : w.ownsRow 0 5 1 vs t.safe.length (u8s t.safe)) (hl : w.ownsRow 0 5 1 vl t.loose.length (u8s t.loose)) (sS : ∀ k, vs.ownBlock = some k → S k) (lS : ∀ k, vl.ownBlock = some k → S k) (ap : ∀ k, vs.ownBlock = some k → vl.ownBlock ≠ some k) : TwAt w' S g vs vl t :=
  ⟨hg, hb, hc.own hs (fun k hk => by rintro rfl; exact own_ne hs hbk (by decide) hk), hc.own hl (fun k hk => by rintro rfl; exact own_ne hl hbk (by decide) hk), sS, lS, ap⟩
theorem TwAt.bound {w : World} {S : Nat → Prop} {g : Nat} {vs vl : Value} {t : TW} (h : TwAt w S g vs vl t) : TwAt w (fun k => S k ∧ k < w.heap.size) g vs vl t :=
  ⟨⟨h.inS, lt_of_blk h.blk⟩, h.blk, h.safe, h.loose, fun k hk => ⟨h.safeS k hk, own_lt h.safe k hk⟩, fun k hk => ⟨h.looseS k hk, own_lt h.loose k hk⟩, h.apart⟩
theorem chg_g {g : Nat} (w : World) (i : Nat) (u : Value) : Chg (fun k => k = g) w (w.setCell ⟨g, i, none⟩ u) := (Chg.refl (fun k => k = g) w).set (fun _ => rfl) _
/-- A new row of safe bytes is laid in. -/
theorem TwAt.put0 {w w2 : World} {S : Nat → Prop} {g : Nat} {vs vl vs' : Value} {t : TW} {L : List UInt8} (h : TwAt w S g vs vl t) (hc : Chg (fun k => vs.ownBlock = some k) w w2) (h1 : w2.ownsRow 0 5 1 vs' L.length (u8s L)) (h3 : ∀ k, vs'.ownBlock = some k → vs.ownBlock = some k ∨ w.heap.size ≤ k) :
    TwAt (w2.setCell ⟨g, 0, none⟩ vs') (fun k => S k ∨ w.heap.size ≤ k) g vs' vl { t with safe := L } ∧ Chg S w (w2.setCell ⟨g, 0, none⟩ vs') := by
  have hb := hc.blk h.blk h.neS
  refine ⟨TwAt.re hb (chg_g w2 0 vs') (blk_set hb 0 vs') (.inl h.inS) h1 (hc.own h.loose (fun k hk hk' => h.apart k hk' hk)) (fun k hk => ?_) (fun k hk => .inl (h.looseS k hk)) (fun k hk hk' => ?_), (hc.mono (fun k hk _ => h.safeS k hk)).set (fun _ => h.inS) _⟩
  · rcases h3 k hk with q | q
    · exact .inl (h.safeS k q)
    · exact .inr q
  · rcases h3 k hk with q | q
    · exact h.apart k q hk'
    · have := own_lt h.loose k hk'; omega
theorem TwAt.put1 {w w2 : World} {S : Nat → Prop} {g : Nat} {vs vl vl' : Value} {t : TW} {L : List UInt8} (h : TwAt w S g vs vl t) (hc : Chg (fun k => vl.ownBlock = some k) w w2) (h1 : w2.ownsRow 0 5 1 vl' L.length (u8s L)) (h3 : ∀ k, vl'.ownBlock = some k → vl.ownBlock = some k ∨ w.heap.size ≤ k) :
    TwAt (w2.setCell ⟨g, 1, none⟩ vl') (fun k => S k ∨ w.heap.size ≤ k) g vs vl' { t with loose := L } ∧ Chg S w (w2.setCell ⟨g, 1, none⟩ vl') := by
  have hb := hc.blk h.blk h.neL
  refine ⟨TwAt.re hb (chg_g w2 1 vl') (blk_set hb 1 vl') (.inl h.inS) (hc.own h.safe (fun k hk hk' => h.apart k hk hk')) h1 (fun k hk => .inl (h.safeS k hk)) (fun k hk => ?_) (fun k hk hk' => ?_), (hc.mono (fun k hk _ => h.looseS k hk)).set (fun _ => h.inS) _⟩
  · rcases h3 k hk with q | q
    · exact .inl (h.looseS k q)
    · exact .inr q
  · rcases h3 k hk' with q | q
    · exact h.apart k hk q
    · have := own_lt h.safe k hk; omega

/-- k of the loose bytes are safe already. -/
structure Kept (M : Nat → Prop) (g : Nat) (vl : Value) (t : TW) (l : List UInt8) (w3 : World) (k : Nat) (wr : World) : Prop where
  t : ∃ vs', TwAt wr (fun j => M j ∨ w3.heap.size ≤ j) g vs' vl { t with safe := t.safe ++ turned (t.loose.take k) l }
  c : Chg M w3 wr

theorem turned_snoc : ∀ (L l : List UInt8) (b : UInt8), turned (L ++ [b]) l = turned L l ++ [match l[L.length]? with | some x => b ^^^ x | none => b]
  | [], [], b => rfl
  | [], x :: l, b => rfl
  | a :: L, [], b => by simp [turned]
  | a :: L, x :: l, b => by simp [turned, turned_snoc L l b]
theorem turned_more {tl l : List UInt8} {k : Nat} {y z : UInt8} (hy : tl[k]? = some y) (hz : z = match l[k]? with | some x => y ^^^ x | none => y) : turned (tl.take (k + 1)) l = turned (tl.take k) l ++ [z] := by
  have hk : k < tl.length := by
    rcases Nat.lt_or_ge k tl.length with h | h
    · exact h
    · rw [List.getElem?_eq_none h] at hy; cases hy
  rw [List.take_add_one, hy, Option.toList_some, turned_snoc, List.length_take, Nat.min_eq_left (by omega), hz]
theorem xor0 (y : UInt8) : bits BinOp.xor IntKind.u8 (y.toNat : Int) 0 = (y.toNat : Int) := by
  have := xor8 y 0
  simpa using this
/-- One more byte is kept. -/
theorem kept_more {M : Nat → Prop} {g : Nat} {vl : Value} {t : TW} {l : List UInt8} {w3 wr w2 : World} {k n : Nat} {vs' : Value} {A2 : Option Addr} {c2 : Nat} {y z : UInt8} (hC : Chg M w3 wr) (hT : TwAt wr (fun j => M j ∨ w3.heap.size ≤ j) g vs' vl { t with safe := t.safe ++ turned (t.loose.take k) l })
    (hy : t.loose[k]? = some y) (hz : z = match l[k]? with | some x => y ^^^ x | none => y) (hn : n = (t.safe ++ turned (t.loose.take k) l).length) (h1 : w2.ownsRow 0 5 1 (.slice A2 (n + 1) c2) (n + 1) (u8s (t.safe ++ turned (t.loose.take k) l) ++ [.int .u8 (z.toNat : Int)])) (h2 : Chg (fun j => vs'.ownBlock = some j) wr w2)
    (h3 : ∀ j, (Value.slice A2 (n + 1) c2).ownBlock = some j → vs'.ownBlock = some j ∨ wr.heap.size ≤ j) : Kept M g vl t l w3 (k + 1) (w2.setCell ⟨g, 0, none⟩ (.slice A2 (n + 1) c2)) := by
  subst hn
  have hL : t.safe ++ turned (t.loose.take (k + 1)) l = (t.safe ++ turned (t.loose.take k) l) ++ [z] := by rw [turned_more hy hz, List.append_assoc]
  have hrow : w2.ownsRow 0 5 1 (.slice A2 ((t.safe ++ turned (t.loose.take k) l).length + 1) c2) (t.safe ++ turned (t.loose.take (k + 1)) l).length (u8s (t.safe ++ turned (t.loose.take (k + 1)) l)) := by
    have e : ((t.safe ++ turned (t.loose.take k) l) ++ [z]).length = (t.safe ++ turned (t.loose.take k) l).length + 1 := by simp only [List.length_append, List.length_cons, List.length_nil]
    rw [hL, u8s_append, e]; exact h1
  obtain ⟨q1, q2⟩ := hT.put0 (L := t.safe ++ turned (t.loose.take (k + 1)) l) h2 hrow h3
  refine ⟨⟨_, q1.mono (fun j hj => ?_)⟩, hC.trans q2 (fun j hj hlt => ?_)⟩
  · rcases hj with (hj | hj) | hj
    · exact .inl hj
    · exact .inr hj
    · exact .inr (Nat.le_trans hC.size hj)
  · rcases hj with hj | hj
    · exact hj
    · omega

set_option maxHeartbeats 8000000 in
set_option maxRecDepth 100000 in
theorem step_any (S R : Nat → Prop) (g : Nat) (vs vl : Value) (t : TW) (kind n : Int) (A : Option Addr) (m c : Nat) (l : List UInt8) (w : World) (h : TwAt w S g vs vl t) (hp : t.armed = true → 0 ≤ t.left) (hm : t.left ≤ 9223372036854775807) (hn : n ≤ 9223372036854775807)
    (hsz : t.safe.length + t.loose.length ≤ 1048576) (hr0 : 0 ≤ t.room) (hr1 : t.room ≤ 1048576) (hl : Ty.At Ty.u8 w R A m c l) (hl3 : l.length ≤ 300) (hR : ∀ k, R k → ¬ S k) :
    Calls Try.prog 28 #[.pointer (some ⟨g, 0, none⟩), .agg #[.int .i64 kind, .int .i64 n, .slice A m c]] w (Stepped S g (t.step kind n l) w) := by
  have H := hid h
  have HM := hid hl.1
  have hmc := hl.2.1
  obtain ⟨As, cs, hvs, _⟩ := own_sees h.safe
  obtain ⟨Al, cl, hvl, _⟩ := own_sees h.loose
  subst hvs hvl
  have HS := hid (own_at h.safe)
  have HL := hid (own_at h.loose)
  have HSL := hid hsz
  have HL3 := hid hl3
  obtain ⟨ts, tl, tr, tlf, ta, td⟩ := t
  simp only at HS HL HSL hp hm hr0 hr1
  obtain ⟨wb, hwb⟩ : ∃ wb, wb = w.alloc (.cells #[.int .i64 kind, .int .i64 n, .slice A m c] 48) := ⟨_, rfl⟩
  have CB := hid (show Chg (fun _ => False) w wb by rw [hwb]; exact (Chg.refl (fun _ => False) w).alloc _)
  have ZB := hid (show wb.heap.size = w.heap.size + 1 by rw [hwb]; simp)
  have BB := hid (show wb.heap[w.heap.size]? = some (.cells #[.int .i64 kind, .int .i64 n, .slice A m c] 48 (0, 0)) by rw [hwb]; exact blk_new w _)
  have HB := hid (H.out.chg CB.out (fun _ _ h => h))
  have hc0 : ∀ wx, Chg (fun _ => False) wb wx → wx.cell? ⟨g, 0, none⟩ = some (.slice As ts.length cs) := fun wx hx => hx.cell HB.out.cells.1 (fun h => h)
  have hc1 : ∀ wx, Chg (fun _ => False) wb wx → wx.cell? ⟨g, 1, none⟩ = some (.slice Al tl.length cl) := fun wx hx => hx.cell HB.out.cells.2.1 (fun h => h)
  have HSS := hid (show ∀ wx, Chg (fun _ => False) wb wx → Sees wx _ As (u8s ts) from fun wx hx => HS.out.2.2.2.chg (CB.out.trans hx (fun _ h _ => h)) (fun _ _ h => h))
  have HLS := hid (show ∀ wx, Chg (fun _ => False) wb wx → Sees wx _ Al (u8s tl) from fun wx hx => HL.out.2.2.2.chg (CB.out.trans hx (fun _ h _ => h)) (fun _ _ h => h))
  have HLL := hid hl
  have OL := hid (show (wb.drew.alloc (.cells #[] 5)).ownsRow 0 5 1 (.slice (some ⟨wb.heap.size, 0, none⟩) 0 0) 0 [] from World.ownsRow_lit (base := 0) (e := 5) (size := 1) wb.drew #[] 0 (Nat.zero_le _) (by simp [maxLen]) rfl)
  clear h hl hsz hl3
  go_enter Try.func28, Try.ntmps28
  go_wp2_with fail
  rw [← hwb]
  clear hwb
  refine wpB_start (fun wx : World => Chg (fun _ => False) wb wx) (by kernel_rfl) ?_
  have hHeld : (fun wx : World => Chg (fun _ => False) wb wx) _ := (by first | assumption | exact Chg.drew (Chg.refl _ _) | (show _ ∧ _; refine ⟨?_, ?_⟩ <;> assumption) | (first | assumption | exact hHeld.alloc _ | exact hHeld.trans h2 (fun k hk hlt => by simp [Value.ownBlock] at hk; omega) | exact hHeld.trans h5 (fun k hk hlt => by have := F2.out k hk; omega)))
  -- 1: t11 := move t0 : 51
  refine wpB_take (i := 1) (v := ?_) (get_of_drop rfl) (by kernel_rfl) (by kernel_rfl) (by kernel_rfl) (by kernel_rfl) (fun _ _ _ h => h) (Or.inl ⟨by rfl, ?_⟩) hHeld ?_
  rotate_left
  · (intro w hSw; (try dsimp only at hSw); go_simp <;> with_reducible rfl)
  try simp only [Act.put, List.setIfInBounds_toArray, List.set_cons_zero, List.set_cons_succ]
  -- 2: t12 := nilCheck t11 : 0
  refine wpB_take (i := 2) (v := ?_) (get_of_drop rfl) (by kernel_rfl) (by kernel_rfl) (by kernel_rfl) (by kernel_rfl) (fun _ _ _ h => h) (Or.inl ⟨by rfl, ?_⟩) hHeld ?_
  rotate_left
  · (intro w hSw; (try dsimp only at hSw); go_simp <;> with_reducible rfl)
  try simp only [Act.put, List.setIfInBounds_toArray, List.set_cons_zero, List.set_cons_succ]
  -- 3: t13 := fieldAddr 53 t12 0 : 0
  refine wpB_take (i := 3) (v := ?_) (get_of_drop rfl) (by kernel_rfl) (by kernel_rfl) (by kernel_rfl) (by kernel_rfl) (fun _ _ _ h => h) (Or.inl ⟨by rfl, ?_⟩) hHeld ?_
  rotate_left
  · (intro w hSw; (try dsimp only at hSw); go_simp <;> with_reducible rfl)
  try simp only [Act.put, List.setIfInBounds_toArray, List.set_cons_zero, List.set_cons_succ]
  -- 4: t14 := load 22 t13 : 22
  refine wpB_take (i := 4) (v := ?_) (get_of_drop rfl) (by kernel_rfl) (by kernel_rfl) (by kernel_rfl) (by kernel_rfl) (fun _ _ _ h => h) (Or.inl ⟨by rfl, ?_⟩) hHeld ?_
  rotate_left
  · (intro w hSw; (try dsimp only at hSw); go_simp <;> with_reducible rfl)
  try simp only [Act.put, List.setIfInBounds_toArray, List.set_cons_zero, List.set_cons_succ]
  -- 6: t16 := move t0 : 51
  refine wpB_take (i := 6) (v := ?_) (get_of_drop rfl) (by kernel_rfl) (by kernel_rfl) (by kernel_rfl) (by kernel_rfl) (fun _ _ _ h => h) (Or.inl ⟨by rfl, ?_⟩) hHeld ?_
  rotate_left
  · (intro w hSw; (try dsimp only at hSw); go_simp <;> with_reducible rfl)
  try simp only [Act.put, List.setIfInBounds_toArray, List.set_cons_zero, List.set_cons_succ]
  -- 7: t17 := nilCheck t16 : 0
  refine wpB_take (i := 7) (v := ?_) (get_of_drop rfl) (by kernel_rfl) (by kernel_rfl) (by kernel_rfl) (by kernel_rfl) (fun _ _ _ h => h) (Or.inl ⟨by rfl, ?_⟩) hHeld ?_
  rotate_left
  · (intro w hSw; (try dsimp only at hSw); go_simp <;> with_reducible rfl)
  try simp only [Act.put, List.setIfInBounds_toArray, List.set_cons_zero, List.set_cons_succ]
  -- 8: t18 := fieldAddr 53 t17 1 : 0
  refine wpB_take (i := 8) (v := ?_) (get_of_drop rfl) (by kernel_rfl) (by kernel_rfl) (by kernel_rfl) (by kernel_rfl) (fun _ _ _ h => h) (Or.inl ⟨by rfl, ?_⟩) hHeld ?_
  rotate_left
  · (intro w hSw; (try dsimp only at hSw); go_simp <;> with_reducible rfl)
  try simp only [Act.put, List.setIfInBounds_toArray, List.set_cons_zero, List.set_cons_succ]
  -- 9: t19 := load 22 t18 : 22
  refine wpB_take (i := 9) (v := ?_) (get_of_drop rfl) (by kernel_rfl) (by kernel_rfl) (by kernel_rfl) (by kernel_rfl) (fun _ _ _ h => h) (Or.inl ⟨by rfl, ?_⟩) hHeld ?_
  rotate_left
  · (intro w hSw; (try dsimp only at hSw); go_simp <;> with_reducible rfl)
  try simp only [Act.put, List.setIfInBounds_toArray, List.set_cons_zero, List.set_cons_succ]
  -- 0: t10 := buildSlice 22 0 [] : 22
  refine wpB_act (i := 0) (by kernel_rfl) (get_of_drop rfl) (fun K hK => ?_)
  go_simp
  refine hK.out _ _ ?_ (fun hHeld2 => ?_)
  · (first | assumption | exact hHeld.alloc _ | exact hHeld.trans h2 (fun k hk hlt => by simp [Value.ownBlock] at hk; omega) | exact hHeld.trans h5 (fun k hk hlt => by have := F2.out k hk; omega))
  clear hHeld hK K
  have hHeld := hHeld2
  clear hHeld2
  try simp only [Act.put, List.setIfInBounds_toArray, List.set_cons_zero, List.set_cons_succ]
  -- 5: t15 := append(t10, t14) types [22, 22] : 22
  refine wpB_act (i := 5) (by kernel_rfl) (get_of_drop rfl) (fun K hK => ?_)
  refine app_step _ rfl (.tmp 10) (.tmp 14) 22 5 (.int .u8 0) 1 1 rfl Try.underlying22 info5 rfl (by decide) (by decide) (.slice (some ⟨wb.heap.size, 0, none⟩) 0 0) 0 [] rfl OL.out As ts.length cs (u8s ts) _ rfl HS.out.2.2.1 HS.out.1 (by rw [u8s_length]; omega) (HSS.out _ hHeld) (u8s_one _) (by have := HSL.out; omega) ?_
  intro A2 c2 w2 h1 h2 h3
  refine hK.out _ _ ?_ (fun hHeld2 => ?_)
  · (first | assumption | exact hHeld.alloc _ | exact hHeld.trans h2 (fun k hk hlt => by simp [Value.ownBlock] at hk; omega) | exact hHeld.trans h5 (fun k hk hlt => by have := F2.out k hk; omega))
  clear hHeld hK K
  have hHeld := hHeld2
  clear hHeld2
  try simp only [Act.put, List.setIfInBounds_toArray, List.set_cons_zero, List.set_cons_succ]
  -- 10: t20 := append(t15, t19) types [22, 22] : 22
  refine wpB_act (i := 10) (by kernel_rfl) (get_of_drop rfl) (fun K hK => ?_)
  refine app_step _ rfl (.tmp 15) (.tmp 19) 22 5 (.int .u8 0) 1 1 rfl Try.underlying22 info5 rfl (by decide) (by decide) (.slice A2 (0 + ts.length) c2) (0 + ts.length) _ rfl h1 Al tl.length cl (u8s tl) _ rfl HL.out.2.2.1 HL.out.1 (by rw [u8s_length]; omega) (HLS.out _ hHeld) (u8s_one _) (by have := HSL.out; omega) ?_
  have F2 := hid (show ∀ k, (Value.slice A2 (0 + ts.length) c2).ownBlock = some k → wb.heap.size ≤ k from fun k hk => by have q := h3 k hk; simp [Value.ownBlock] at q; omega)
  have Z2 := hid hHeld.size
  intro A3 c3 w3 h4 h5 h6
  refine hK.out _ _ ?_ (fun hHeld2 => ?_)
  · (first | assumption | exact hHeld.alloc _ | exact hHeld.trans h2 (fun k hk hlt => by simp [Value.ownBlock] at hk; omega) | exact hHeld.trans h5 (fun k hk hlt => by have := F2.out k hk; omega))
  clear hHeld hK K
  have hHeld := hHeld2
  clear hHeld2
  try simp only [Act.put, List.setIfInBounds_toArray, List.set_cons_zero, List.set_cons_succ]
  -- 11: t5 := assign t20 : 22
  refine wpB_take (i := 11) (v := ?_) (get_of_drop rfl) (by kernel_rfl) (by kernel_rfl) (by kernel_rfl) (by kernel_rfl) (fun _ _ _ h => h) (Or.inl ⟨by rfl, ?_⟩) hHeld ?_
  rotate_left
  · (intro w hSw; (try dsimp only at hSw); go_simp <;> with_reducible rfl)
  try simp only [Act.put, List.setIfInBounds_toArray, List.set_cons_zero, List.set_cons_succ]
  refine wpB_done (by kernel_rfl) ?_ _
  obtain ⟨nn, hnn⟩ : ∃ nn, ts.length + tl.length = nn := ⟨_, rfl⟩
  simp only [Nat.zero_add, hnn]
  have OA := hid (show w3.ownsRow 0 5 1 (.slice A3 nn c3) nn (u8s (ts ++ tl)) by
    have q := h4
    simp only [Nat.zero_add, List.nil_append, hnn] at q
    rw [u8s_append]
    exact q)
  have FA := hid (show ∀ k, (Value.slice A3 nn c3).ownBlock = some k → wb.heap.size ≤ k from fun k hk => by
    rcases h6 k (by rw [Nat.zero_add, hnn]; exact hk) with q | q
    · exact F2.out k q
    · have := Z2.out; omega)
  have NN := hid hnn
  clear hnn
  have C3 := hid hHeld
  clear h1 h2 h3 h4 h5 h6 hHeld
  have BX := hid (C3.out.blk BB.out (fun h => h))
  have hx0 : w3.cell? ⟨w.heap.size, 0, none⟩ = some (.int .i64 kind) := by rw [cellAt BX.out]; rfl
  have hx1 : w3.cell? ⟨w.heap.size, 1, none⟩ = some (.int .i64 n) := by rw [cellAt BX.out]; rfl
  have hx2 : w3.cell? ⟨w.heap.size, 2, none⟩ = some (.slice A m c) := by rw [cellAt BX.out]; rfl
  have CW := hid (show Chg S w w3 from (CB.out.trans C3.out (fun _ h _ => h)).mono (fun _ h _ => h.elim))
  have H3 := hid (HB.out.chg C3.out (fun _ _ h => h))
  have HL3W := hid (show Ty.At Ty.u8 w3 R A m c l from (HLL.out.chg CB.out (fun _ _ h => h)).chg C3.out (fun _ _ h => h))
  obtain ⟨d0, d1, d2, d3, d4, d5⟩ := H3.out.cells
  simp only at d0 d1 d2 d3 d4 d5
  have e3 := H3.out.free 3
  have e4 := H3.out.free 4
  have e5 := H3.out.free 5
  have e0 := H3.out.free 0
  have e1 := H3.out.free 1
  have hgb : g ≠ w.heap.size := by have := lt_of_blk H.out.blk; omega
  have hgb' : w.heap.size ≠ g := fun h => hgb h.symm
  clear hc0 hc1
  have hsame : TwAt w3 (fun k => S k ∨ w.heap.size ≤ k) g (.slice As ts.length cs) (.slice Al tl.length cl) ⟨ts, tl, tr, tlf, ta, td⟩ := H3.out.mono (fun k hk => .inl hk)
  have HSAME := hid hsame
  clear hsame
  by_cases k4 : kind = 4
  · subst k4
    go_wp2_with fail
    refine wpB_start (fun wx : World => wx.cell? ⟨w.heap.size, 1, none⟩ = some (.int .i64 n)) (by kernel_rfl) ?_
    have hHeld : (fun wx : World => wx.cell? ⟨w.heap.size, 1, none⟩ = some (.int .i64 n)) _ := (by first | assumption | exact Chg.drew (Chg.refl _ _) | (show _ ∧ _; refine ⟨?_, ?_⟩ <;> assumption) | (first | assumption | go_keep))
    -- 0: t25 := move t0 : 51
    refine wpB_take (i := 0) (v := ?_) (get_of_drop rfl) (by kernel_rfl) (by kernel_rfl) (by kernel_rfl) (by kernel_rfl) (fun _ _ _ h => h) (Or.inl ⟨by rfl, ?_⟩) hHeld ?_
    rotate_left
    · (intro w hSw; (try dsimp only at hSw); go_simp <;> with_reducible rfl)
    try simp only [Act.put, List.setIfInBounds_toArray, List.set_cons_zero, List.set_cons_succ]
    -- 1: t26 := move t0 : 51
    refine wpB_take (i := 1) (v := ?_) (get_of_drop rfl) (by kernel_rfl) (by kernel_rfl) (by kernel_rfl) (by kernel_rfl) (fun _ _ _ h => h) (Or.inl ⟨by rfl, ?_⟩) hHeld ?_
    rotate_left
    · (intro w hSw; (try dsimp only at hSw); go_simp <;> with_reducible rfl)
    try simp only [Act.put, List.setIfInBounds_toArray, List.set_cons_zero, List.set_cons_succ]
    -- 2: t27 := fieldAddr 48 t3 1 : 0
    refine wpB_take (i := 2) (v := ?_) (get_of_drop rfl) (by kernel_rfl) (by kernel_rfl) (by kernel_rfl) (by kernel_rfl) (fun _ _ _ h => h) (Or.inl ⟨by rfl, ?_⟩) hHeld ?_
    rotate_left
    · (intro w hSw; (try dsimp only at hSw); go_simp <;> with_reducible rfl)
    try simp only [Act.put, List.setIfInBounds_toArray, List.set_cons_zero, List.set_cons_succ]
    -- 3: t28 := load 3 t27 : 3
    refine wpB_take (i := 3) (v := ?_) (get_of_drop rfl) (by kernel_rfl) (by kernel_rfl) (by kernel_rfl) (by kernel_rfl) (fun _ _ _ h => h) (Or.inl ⟨by rfl, ?_⟩) hHeld ?_
    rotate_left
    · (intro w hSw; (try dsimp only at hSw); go_simp <;> with_reducible rfl)
    try simp only [Act.put, List.setIfInBounds_toArray, List.set_cons_zero, List.set_cons_succ]
    -- 4: t29 := binOp BinOp.geq 3 t28 #i64:0 3 : 4
    refine wpB_take (i := 4) (v := ?_) (get_of_drop rfl) (by kernel_rfl) (by kernel_rfl) (by kernel_rfl) (by kernel_rfl) (fun _ _ _ h => h) (Or.inl ⟨by rfl, ?_⟩) hHeld ?_
    rotate_left
    · (intro w hSw; (try dsimp only at hSw); go_simp <;> with_reducible rfl)
    try simp only [Act.put, List.setIfInBounds_toArray, List.set_cons_zero, List.set_cons_succ]
    -- 5: t30 := fieldAddr 48 t3 1 : 0
    refine wpB_take (i := 5) (v := ?_) (get_of_drop rfl) (by kernel_rfl) (by kernel_rfl) (by kernel_rfl) (by kernel_rfl) (fun _ _ _ h => h) (Or.inl ⟨by rfl, ?_⟩) hHeld ?_
    rotate_left
    · (intro w hSw; (try dsimp only at hSw); go_simp <;> with_reducible rfl)
    try simp only [Act.put, List.setIfInBounds_toArray, List.set_cons_zero, List.set_cons_succ]
    -- 6: t31 := load 3 t30 : 3
    refine wpB_take (i := 6) (v := ?_) (get_of_drop rfl) (by kernel_rfl) (by kernel_rfl) (by kernel_rfl) (by kernel_rfl) (fun _ _ _ h => h) (Or.inl ⟨by rfl, ?_⟩) hHeld ?_
    rotate_left
    · (intro w hSw; (try dsimp only at hSw); go_simp <;> with_reducible rfl)
    try simp only [Act.put, List.setIfInBounds_toArray, List.set_cons_zero, List.set_cons_succ]
    -- 7: t32 := nilCheck t25 : 0
    refine wpB_take (i := 7) (v := ?_) (get_of_drop rfl) (by kernel_rfl) (by kernel_rfl) (by kernel_rfl) (by kernel_rfl) (fun _ _ _ h => h) (Or.inl ⟨by rfl, ?_⟩) hHeld ?_
    rotate_left
    · (intro w hSw; (try dsimp only at hSw); go_simp <;> with_reducible rfl)
    try simp only [Act.put, List.setIfInBounds_toArray, List.set_cons_zero, List.set_cons_succ]
    -- 8: t33 := fieldAddr 53 t32 4 : 0
    refine wpB_take (i := 8) (v := ?_) (get_of_drop rfl) (by kernel_rfl) (by kernel_rfl) (by kernel_rfl) (by kernel_rfl) (fun _ _ _ h => h) (Or.inl ⟨by rfl, ?_⟩) hHeld ?_
    rotate_left
    · (intro w hSw; (try dsimp only at hSw); go_simp <;> with_reducible rfl)
    try simp only [Act.put, List.setIfInBounds_toArray, List.set_cons_zero, List.set_cons_succ]
    -- 9: t- := store 4 t33 t29 : 0
    refine wpB_act (i := 9) (by kernel_rfl) (get_of_drop rfl) (fun K hK => ?_)
    go_simp
    refine hK.out _ _ ?_ (fun hHeld2 => ?_)
    · (first | assumption | go_keep)
    clear hHeld hK K
    have hHeld := hHeld2
    clear hHeld2
    try simp only [Act.put, List.setIfInBounds_toArray, List.set_cons_zero, List.set_cons_succ]
    -- 10: t34 := nilCheck t26 : 0
    refine wpB_take (i := 10) (v := ?_) (get_of_drop rfl) (by kernel_rfl) (by kernel_rfl) (by kernel_rfl) (by kernel_rfl) (fun _ _ _ h => h) (Or.inl ⟨by rfl, ?_⟩) hHeld ?_
    rotate_left
    · (intro w hSw; (try dsimp only at hSw); go_simp <;> with_reducible rfl)
    try simp only [Act.put, List.setIfInBounds_toArray, List.set_cons_zero, List.set_cons_succ]
    -- 11: t35 := fieldAddr 53 t34 3 : 0
    refine wpB_take (i := 11) (v := ?_) (get_of_drop rfl) (by kernel_rfl) (by kernel_rfl) (by kernel_rfl) (by kernel_rfl) (fun _ _ _ h => h) (Or.inl ⟨by rfl, ?_⟩) hHeld ?_
    rotate_left
    · (intro w hSw; (try dsimp only at hSw); go_simp <;> with_reducible rfl)
    try simp only [Act.put, List.setIfInBounds_toArray, List.set_cons_zero, List.set_cons_succ]
    -- 12: t- := store 3 t35 t31 : 0 (BARRIER)
    refine wpB_bar (i := 12) (by kernel_rfl) (get_of_drop rfl) (by kernel_rfl) (fun K hK => ?_)
    go_simp
    refine hK.out _ _ (fun _ : World => True) ?_
    clear hHeld hK K
    have hHeld := trivial
    try simp only [Act.put, List.setIfInBounds_toArray, List.set_cons_zero, List.set_cons_succ]
    refine wpB_done (by kernel_rfl) ?_ _
    go_wp2_with fail
    go_ret
    have hc : Chg (fun k => k = g) w3 ((w3.drew.setCell ⟨g, 4, none⟩ (.bool (decide (0 ≤ n)))).setCell ⟨g, 3, none⟩ (.int .i64 n)) := ((Chg.refl (fun k => k = g) w3).drew.set (fun _ => rfl) _).set (fun _ => rfl) _
    refine ⟨_, _, rfl, (H3.out.wrote (t' := ⟨ts, tl, tr, n, decide (0 ≤ n), td⟩) hc (blk_set (w := w3.drew.setCell ⟨g, 4, none⟩ (.bool (decide (0 ≤ n)))) (blk_set (w := w3.drew) H3.out.blk 4 (.bool (decide (0 ≤ n)))) 3 (.int .i64 n)) rfl rfl).mono (fun k hk => Or.inl hk), CW.out.trans hc (fun k hk _ => by subst hk; exact H.out.inS)⟩
  by_cases k5 : kind = 5
  · subst k5
    obtain ⟨q, hq⟩ : ∃ q : Nat, q = (min (max n 0) (tl.length : Int)).toNat := ⟨_, rfl⟩
    have hql : q ≤ tl.length := by omega
    have hqi : (q : Int) = min (max n 0) (tl.length : Int) := by omega
    have EQ := hid (show (TW.step ⟨ts, tl, tr, tlf, ta, td⟩ 5 n l) = (⟨ts ++ turned (tl.take q) l, [], tr, tlf, false, false⟩, 0) by rw [hq]; rfl)
    have HM0 := hid ((H.out.bound.chg CB.out (fun _ _ h => h)).chg C3.out (fun _ _ h => h))
    have hI : ∀ nn, Kept (fun k => S k ∧ k < w.heap.size) g (.slice Al tl.length cl) ⟨ts, tl, tr, tlf, ta, td⟩ l w3 0 (w3.drewN nn) := fun nn =>
      ⟨⟨_, (by simpa [turned] using HM0.out.chg ((Chg.refl (fun _ => False) w3).drewN nn) (fun _ _ h => h) : TwAt (w3.drewN nn) (fun k => S k ∧ k < w.heap.size) g (.slice As ts.length cs) (.slice Al tl.length cl) _).mono (fun k hk => .inl hk)⟩, (Chg.refl _ w3).drewN nn⟩
    have HI0 := hid hI
    have HI00 := hid (show Kept (fun k => S k ∧ k < w.heap.size) g (.slice Al tl.length cl) ⟨ts, tl, tr, tlf, ta, td⟩ l w3 0 w3 from hI 0)
    have HQ := hid hq
    have HQI := hid hqi
    clear hI hq hqi
    have hlen0 : (0 : Int) ≤ (tl.length : Int) := Int.natCast_nonneg _
    have hfin : ∀ wr, Kept (fun k => S k ∧ k < w.heap.size) g (.slice Al tl.length cl) ⟨ts, tl, tr, tlf, ta, td⟩ l w3 q wr → Stepped S g (TW.step ⟨ts, tl, tr, tlf, ta, td⟩ 5 n l) w (.returned (.int .i64 0)) (((wr.setCell ⟨g, 1, none⟩ (.slice none 0 0)).setCell ⟨g, 4, none⟩ (.bool false)).setCell ⟨g, 5, none⟩ (.bool false)) := fun wr hk => by
      rw [EQ.out]
      obtain ⟨⟨vs', ht⟩, hc⟩ := hk
      have hcc : Chg (fun k => k = g) wr (((wr.setCell ⟨g, 1, none⟩ (.slice none 0 0)).setCell ⟨g, 4, none⟩ (.bool false)).setCell ⟨g, 5, none⟩ (.bool false)) := ((chg_g wr 1 _).trans (chg_g _ 4 _) (fun _ h _ => h)).trans (chg_g _ 5 _) (fun _ h _ => h)
      have hb := blk_set (blk_set (blk_set ht.blk 1 (.slice none 0 0)) 4 (.bool false)) 5 (.bool false)
      refine ⟨vs', .slice none 0 0, rfl, (TwAt.re (t := ⟨ts ++ turned (tl.take q) l, [], tr, tlf, false, false⟩) ht.blk hcc hb ht.inS ht.safe (own_nil _ _ _) ht.safeS (fun k hk => by simp [Value.ownBlock] at hk) (fun k _ hk => by simp [Value.ownBlock] at hk)).mono (fun k hk => ?_), (CW.out.trans (hc.mono (fun k hk _ => hk.1)) (fun _ h _ => h)).trans hcc (fun k hk _ => by subst hk; exact H.out.inS)⟩
      rcases hk with hk | hk
      · exact .inl hk.1
      · exact .inr (Nat.le_trans (by have := CB.out.size; have := C3.out.size; omega) hk)
    have HFIN := hid hfin
    clear hfin
    by_cases hn0 : 0 < n
    · have hmn : mn n (tl.length : Int) = (q : Int) := by have := HQI.out; rw [mn_eq]; omega
      go_wp2_with fail
      go_quiet (fail)
      go_wp2_with fail
      have hqm : (q : Int) ≤ 9223372036854775807 := by have := HSL.out; omega
      clear hmn d0 d1 d2 d3 d4 d5 e0 e1 e3 e4 e5
      go_loopw [52] (fun i wr => ∃ k : Nat, k ≤ q ∧ i = .int .i64 k ∧ Kept (fun k => S k ∧ k < w.heap.size) g (.slice Al tl.length cl) ⟨ts, tl, tr, tlf, ta, td⟩ l w3 k wr) (fun i _ => q - (intOf i).toNat)
      case atStart => exact ⟨0, Nat.zero_le _, rfl, HI0.out _⟩
      case round =>
        obtain ⟨k, hk, rfl, hI⟩ := hrel
        have HK := hid hI
        obtain ⟨⟨vs', hT⟩, hC⟩ := hI
        obtain ⟨A', c', hv', _⟩ := own_sees hT.safe
        clear NN OA FA
        obtain ⟨nk, hnn⟩ : ∃ nk, nk = (ts ++ turned (tl.take k) l).length := ⟨_, rfl⟩
        have NN := hid hnn
        have hv2 : vs' = .slice A' nk c' := by rw [hnn]; exact hv'
        clear hnn hv'
        subst hv2
        obtain ⟨M, hMM⟩ : ∃ M : Nat → Prop, ∀ j, M j ↔ (Value.slice A' nk c').ownBlock = some j := ⟨_, fun _ => Iff.rfl⟩
        have MM := hid hMM
        clear hMM
        have HT := hid hT
        have HC := hid hC
        have f0 := hT.free 0
        have f1 := hT.free 1
        have f4 := hT.free 4
        have f5 := hT.free 5
        obtain ⟨c0, c1, _, _, c4, c5⟩ := hT.cells
        simp only at c0 c1 c4 c5
        have bx2 : wr.cell? ⟨w.heap.size, 2, none⟩ = some (.slice A m c) := hC.cell hx2 (fun h => Nat.lt_irrefl _ h.2)
        by_cases hlt : k < q
        · obtain ⟨gl, hAl, _⟩ := own_form hT.loose (show 0 < tl.length by omega)
          subst hAl
          obtain ⟨y, hy⟩ : ∃ y : UInt8, tl[k]? = some y := ⟨_, List.getElem?_eq_getElem (by omega)⟩
          have cy := (own_u8 hT.loose hy).1
          have HY := hid hy
          have hgl : ∀ j, (Value.slice A' nk c').ownBlock = some j → j ≠ gl := fun j hj hjg => hT.apart j hj (by rw [hjg]; rfl)
          have HGL := hid hgl
          have hcell0 : ∀ wx, Chg M wr wx → wx.cell? ⟨g, 0, none⟩ = some (.slice A' nk c') := fun wx hx => hx.cell c0 (fun h => HT.out.neS ((MM.out _).1 h))
          have hcell1 : ∀ wx, Chg M wr wx → wx.cell? ⟨g, 1, none⟩ = some (.slice (some ⟨gl, 0, none⟩) tl.length cl) := fun wx hx => hx.cell c1 (fun h => HT.out.neS ((MM.out _).1 h))
          have hcelly : ∀ wx, Chg M wr wx → wx.cell? ⟨gl, k, none⟩ = some (.int .u8 (y.toNat : Int)) := fun wx hx => hx.cell cy (fun h => HGL.out _ ((MM.out _).1 h) rfl)
          clear hT hC hy hgl c0 c1 cy
          have hktl : (k : Int) < (tl.length : Int) := by omega
          by_cases hkm : k < m
          · obtain ⟨x, hx⟩ : ∃ x : UInt8, l[k]? = some x := ⟨_, List.getElem?_eq_getElem (by have := HM.out; omega)⟩
            obtain ⟨a, ha, haS, hca⟩ := Ty.byteAt HL3W.out hx
            subst ha
            have hca' : wr.cell? (a.add k) = some (.int .u8 (x.toNat : Int)) := HC.out.cell hca (by rw [add_block]; exact fun h => hR _ haS h.1)
            have HX := hid hx
            clear hx hca haS
            go_wp2_with fail
            refine wpB_start (fun wx : World => Chg M wr wx) (by kernel_rfl) ?_
            have hHeld : (fun wx : World => Chg M wr wx) _ := (by first | assumption | exact Chg.drew (Chg.refl _ _) | (show _ ∧ _; refine ⟨?_, ?_⟩ <;> assumption) | (first | assumption | exact hHeld.alloc _ | exact hHeld.trans h2 (fun _ h _ => (MM.out _).2 h)))
            -- 0: t65 := move t0 : 51
            refine wpB_take (i := 0) (v := ?_) (get_of_drop rfl) (by kernel_rfl) (by kernel_rfl) (by kernel_rfl) (by kernel_rfl) (fun _ _ _ h => h) (Or.inl ⟨by rfl, ?_⟩) hHeld ?_
            rotate_left
            · (intro w hSw; (try dsimp only at hSw); go_simp <;> with_reducible rfl)
            try simp only [Act.put, List.setIfInBounds_toArray, List.set_cons_zero, List.set_cons_succ]
            -- 1: t66 := move t0 : 51
            refine wpB_take (i := 1) (v := ?_) (get_of_drop rfl) (by kernel_rfl) (by kernel_rfl) (by kernel_rfl) (by kernel_rfl) (fun _ _ _ h => h) (Or.inl ⟨by rfl, ?_⟩) hHeld ?_
            rotate_left
            · (intro w hSw; (try dsimp only at hSw); go_simp <;> with_reducible rfl)
            try simp only [Act.put, List.setIfInBounds_toArray, List.set_cons_zero, List.set_cons_succ]
            -- 2: t67 := nilCheck t66 : 0
            refine wpB_take (i := 2) (v := ?_) (get_of_drop rfl) (by kernel_rfl) (by kernel_rfl) (by kernel_rfl) (by kernel_rfl) (fun _ _ _ h => h) (Or.inl ⟨by rfl, ?_⟩) hHeld ?_
            rotate_left
            · (intro w hSw; (try dsimp only at hSw); go_simp <;> with_reducible rfl)
            try simp only [Act.put, List.setIfInBounds_toArray, List.set_cons_zero, List.set_cons_succ]
            -- 3: t68 := fieldAddr 53 t67 0 : 0
            refine wpB_take (i := 3) (v := ?_) (get_of_drop rfl) (by kernel_rfl) (by kernel_rfl) (by kernel_rfl) (by kernel_rfl) (fun _ _ _ h => h) (Or.inl ⟨by rfl, ?_⟩) hHeld ?_
            rotate_left
            · (intro w hSw; (try dsimp only at hSw); go_simp <;> with_reducible rfl)
            try simp only [Act.put, List.setIfInBounds_toArray, List.set_cons_zero, List.set_cons_succ]
            -- 4: t69 := load 22 t68 : 22
            refine wpB_take (i := 4) (v := ?_) (get_of_drop rfl) (by kernel_rfl) (by kernel_rfl) (by kernel_rfl) (by kernel_rfl) (fun _ _ _ h => h) (Or.inl ⟨by rfl, ?_⟩) hHeld ?_
            rotate_left
            · (intro w hSw; (try dsimp only at hSw); go_simp <;> with_reducible rfl)
            try simp only [Act.put, List.setIfInBounds_toArray, List.set_cons_zero, List.set_cons_succ]
            -- 5: t70 := move t0 : 51
            refine wpB_take (i := 5) (v := ?_) (get_of_drop rfl) (by kernel_rfl) (by kernel_rfl) (by kernel_rfl) (by kernel_rfl) (fun _ _ _ h => h) (Or.inl ⟨by rfl, ?_⟩) hHeld ?_
            rotate_left
            · (intro w hSw; (try dsimp only at hSw); go_simp <;> with_reducible rfl)
            try simp only [Act.put, List.setIfInBounds_toArray, List.set_cons_zero, List.set_cons_succ]
            -- 6: t71 := nilCheck t70 : 0
            refine wpB_take (i := 6) (v := ?_) (get_of_drop rfl) (by kernel_rfl) (by kernel_rfl) (by kernel_rfl) (by kernel_rfl) (fun _ _ _ h => h) (Or.inl ⟨by rfl, ?_⟩) hHeld ?_
            rotate_left
            · (intro w hSw; (try dsimp only at hSw); go_simp <;> with_reducible rfl)
            try simp only [Act.put, List.setIfInBounds_toArray, List.set_cons_zero, List.set_cons_succ]
            -- 7: t72 := fieldAddr 53 t71 1 : 0
            refine wpB_take (i := 7) (v := ?_) (get_of_drop rfl) (by kernel_rfl) (by kernel_rfl) (by kernel_rfl) (by kernel_rfl) (fun _ _ _ h => h) (Or.inl ⟨by rfl, ?_⟩) hHeld ?_
            rotate_left
            · (intro w hSw; (try dsimp only at hSw); go_simp <;> with_reducible rfl)
            try simp only [Act.put, List.setIfInBounds_toArray, List.set_cons_zero, List.set_cons_succ]
            -- 8: t73 := load 22 t72 : 22
            refine wpB_take (i := 8) (v := ?_) (get_of_drop rfl) (by kernel_rfl) (by kernel_rfl) (by kernel_rfl) (by kernel_rfl) (fun _ _ _ h => h) (Or.inl ⟨by rfl, ?_⟩) hHeld ?_
            rotate_left
            · (intro w hSw; (try dsimp only at hSw); go_simp <;> with_reducible rfl)
            try simp only [Act.put, List.setIfInBounds_toArray, List.set_cons_zero, List.set_cons_succ]
            -- 9: t74 := move t7 : 3
            refine wpB_take (i := 9) (v := ?_) (get_of_drop rfl) (by kernel_rfl) (by kernel_rfl) (by kernel_rfl) (by kernel_rfl) (fun _ _ _ h => h) (Or.inl ⟨by rfl, ?_⟩) hHeld ?_
            rotate_left
            · (intro w hSw; (try dsimp only at hSw); go_simp <;> with_reducible rfl)
            try simp only [Act.put, List.setIfInBounds_toArray, List.set_cons_zero, List.set_cons_succ]
            -- 10: t75 := indexAddr 22 t73 t74 : 0
            refine wpB_take (i := 10) (v := ?_) (get_of_drop rfl) (by kernel_rfl) (by kernel_rfl) (by kernel_rfl) (by kernel_rfl) (fun _ _ _ h => h) (Or.inl ⟨by rfl, ?_⟩) hHeld ?_
            rotate_left
            · (intro w hSw; (try dsimp only at hSw); go_simp <;> with_reducible rfl)
            try simp only [Act.put, List.setIfInBounds_toArray, List.set_cons_zero, List.set_cons_succ]
            -- 11: t76 := load 5 t75 : 5
            refine wpB_take (i := 11) (v := ?_) (get_of_drop rfl) (by kernel_rfl) (by kernel_rfl) (by kernel_rfl) (by kernel_rfl) (fun _ _ _ h => h) (Or.inl ⟨by rfl, ?_⟩) hHeld ?_
            rotate_left
            · (intro w hSw; (try dsimp only at hSw); go_simp <;> with_reducible rfl)
            try simp only [Act.put, List.setIfInBounds_toArray, List.set_cons_zero, List.set_cons_succ]
            -- 12: t77 := move t8 : 5
            refine wpB_take (i := 12) (v := ?_) (get_of_drop rfl) (by kernel_rfl) (by kernel_rfl) (by kernel_rfl) (by kernel_rfl) (fun _ _ _ h => h) (Or.inl ⟨by rfl, ?_⟩) hHeld ?_
            rotate_left
            · (intro w hSw; (try dsimp only at hSw); go_simp <;> with_reducible rfl)
            try simp only [Act.put, List.setIfInBounds_toArray, List.set_cons_zero, List.set_cons_succ]
            -- 13: t78 := binOp BinOp.xor 5 t76 t77 5 : 5
            refine wpB_take (i := 13) (v := ?_) (get_of_drop rfl) (by kernel_rfl) (by kernel_rfl) (by kernel_rfl) (by kernel_rfl) (fun _ _ _ h => h) (Or.inl ⟨by rfl, ?_⟩) hHeld ?_
            rotate_left
            · (intro w hSw; (try dsimp only at hSw); go_simp <;> with_reducible rfl)
            try simp only [Act.put, List.setIfInBounds_toArray, List.set_cons_zero, List.set_cons_succ]
            -- 14: t79 := buildSlice 22 1 [⟨0, t78⟩] : 22
            refine wpB_act (i := 14) (by kernel_rfl) (get_of_drop rfl) (fun K hK => ?_)
            go_simp
            refine hK.out _ _ ?_ (fun hHeld2 => ?_)
            · (first | assumption | exact hHeld.alloc _ | exact hHeld.trans h2 (fun _ h _ => (MM.out _).2 h))
            clear hHeld hK K
            have hHeld := hHeld2
            clear hHeld2
            try simp only [Act.put, List.setIfInBounds_toArray, List.set_cons_zero, List.set_cons_succ]
            -- 15: t80 := append(t69, t79) types [22, 22] : 22
            refine wpB_act (i := 15) (by kernel_rfl) (get_of_drop rfl) (fun K hK => ?_)
            refine app_step _ rfl (.tmp 69) (.tmp 79) 22 5 (.int .u8 0) 1 1 rfl Try.underlying22 info5 rfl (by decide) (by decide) (.slice A' nk c') nk (u8s (ts ++ turned (tl.take k) l)) rfl (by have q := fun W (hW : Chg (fun _ => False) wr W) => hW.own HT.out.safe (fun _ _ h => h); simp only at q; rw [← NN.out] at q; exact q _ ((Chg.refl _ wr).alloc _).drew) (some ⟨wr.heap.size, 0, none⟩) 1 1 _ _ rfl (by simp) (by omega) rfl ((one_sees wr _ 5).chg ((Chg.refl (fun _ => False) _).drew) (fun _ _ h => h)) (by simp [Value.oneCell']) (by have := HSL.out; rw [NN.out, List.length_append, turned_length, List.length_take]; omega) ?_
            have HH := hid hHeld
            intro A2 c2 w2 h1 h2 h3
            have f0' : w2.frozen? ⟨g, 0, none⟩ = false := freeAt ((HH.out.trans h2 (fun _ h _ => (MM.out _).2 h)).blk HT.out.blk (fun h => HT.out.neS ((MM.out _).1 h))) 0
            have c0' : w2.cell? ⟨g, 0, none⟩ = some (.slice A' nk c') := hcell0 _ (HH.out.trans h2 (fun _ h _ => (MM.out _).2 h))
            refine hK.out _ _ ?_ (fun hHeld2 => ?_)
            · (first | assumption | exact hHeld.alloc _ | exact hHeld.trans h2 (fun _ h _ => (MM.out _).2 h))
            clear hHeld hK K
            have hHeld := hHeld2
            clear hHeld2
            try simp only [Act.put, List.setIfInBounds_toArray, List.set_cons_zero, List.set_cons_succ]
            -- 16: t81 := nilCheck t65 : 0
            refine wpB_take (i := 16) (v := ?_) (get_of_drop rfl) (by kernel_rfl) (by kernel_rfl) (by kernel_rfl) (by kernel_rfl) (fun _ _ _ h => h) (Or.inl ⟨by rfl, ?_⟩) hHeld ?_
            rotate_left
            · (intro w hSw; (try dsimp only at hSw); go_simp <;> with_reducible rfl)
            try simp only [Act.put, List.setIfInBounds_toArray, List.set_cons_zero, List.set_cons_succ]
            -- 17: t82 := fieldAddr 53 t81 0 : 0
            refine wpB_take (i := 17) (v := ?_) (get_of_drop rfl) (by kernel_rfl) (by kernel_rfl) (by kernel_rfl) (by kernel_rfl) (fun _ _ _ h => h) (Or.inl ⟨by rfl, ?_⟩) hHeld ?_
            rotate_left
            · (intro w hSw; (try dsimp only at hSw); go_simp <;> with_reducible rfl)
            try simp only [Act.put, List.setIfInBounds_toArray, List.set_cons_zero, List.set_cons_succ]
            -- 18: t- := store 22 t82 t80 : 0 (BARRIER)
            refine wpB_bar (i := 18) (by kernel_rfl) (get_of_drop rfl) (by kernel_rfl) (fun K hK => ?_)
            go_simp
            refine hK.out _ _ (fun _ : World => True) ?_
            clear hHeld hK K
            have hHeld := trivial
            try simp only [Act.put, List.setIfInBounds_toArray, List.set_cons_zero, List.set_cons_succ]
            refine wpB_done (by kernel_rfl) ?_ _
            have G1 := hid h1
            have G2 := hid (((Chg.refl (fun j => (Value.slice A' nk c').ownBlock = some j) wr).alloc _).drew.trans h2 (fun _ h _ => h))
            have G3 := hid h3
            clear h1 h2 h3 hHeld hcell0 hcell1 hcelly
            have hN := kept_more (t := ⟨ts, tl, tr, tlf, ta, td⟩) HC.out HT.out HY.out (z := y ^^^ x) (by rw [HX.out]) NN.out (by rw [← xor8]; exact G1.out) G2.out (fun j hj => by
              rcases G3.out j hj with q | q
              · exact .inl q
              · exact .inr (by simp at q; omega))
            have HN := hid hN
            clear hN
            go_wp2_with fail
            go_roundw
            case measure => simp [intOf]; omega
            case rel => first | exact ⟨k + 1, by omega, by go_num, HN.out⟩ | ((repeat apply Exists.intro); exact ⟨⟨k + 1, by omega, by go_num, HN.out⟩, rfl⟩)
          · have HX : Hid (l[k]? = none) := hid (List.getElem?_eq_none (by have := HM.out; omega))
            go_wp2_with fail
            refine wpB_start (fun wx : World => Chg M wr wx) (by kernel_rfl) ?_
            have hHeld : (fun wx : World => Chg M wr wx) _ := (by first | assumption | exact Chg.drew (Chg.refl _ _) | (show _ ∧ _; refine ⟨?_, ?_⟩ <;> assumption) | (first | assumption | exact hHeld.alloc _ | exact hHeld.trans h2 (fun _ h _ => (MM.out _).2 h)))
            -- 0: t65 := move t0 : 51
            refine wpB_take (i := 0) (v := ?_) (get_of_drop rfl) (by kernel_rfl) (by kernel_rfl) (by kernel_rfl) (by kernel_rfl) (fun _ _ _ h => h) (Or.inl ⟨by rfl, ?_⟩) hHeld ?_
            rotate_left
            · (intro w hSw; (try dsimp only at hSw); go_simp <;> with_reducible rfl)
            try simp only [Act.put, List.setIfInBounds_toArray, List.set_cons_zero, List.set_cons_succ]
            -- 1: t66 := move t0 : 51
            refine wpB_take (i := 1) (v := ?_) (get_of_drop rfl) (by kernel_rfl) (by kernel_rfl) (by kernel_rfl) (by kernel_rfl) (fun _ _ _ h => h) (Or.inl ⟨by rfl, ?_⟩) hHeld ?_
            rotate_left
            · (intro w hSw; (try dsimp only at hSw); go_simp <;> with_reducible rfl)
            try simp only [Act.put, List.setIfInBounds_toArray, List.set_cons_zero, List.set_cons_succ]
            -- 2: t67 := nilCheck t66 : 0
            refine wpB_take (i := 2) (v := ?_) (get_of_drop rfl) (by kernel_rfl) (by kernel_rfl) (by kernel_rfl) (by kernel_rfl) (fun _ _ _ h => h) (Or.inl ⟨by rfl, ?_⟩) hHeld ?_
            rotate_left
            · (intro w hSw; (try dsimp only at hSw); go_simp <;> with_reducible rfl)
            try simp only [Act.put, List.setIfInBounds_toArray, List.set_cons_zero, List.set_cons_succ]
            -- 3: t68 := fieldAddr 53 t67 0 : 0
            refine wpB_take (i := 3) (v := ?_) (get_of_drop rfl) (by kernel_rfl) (by kernel_rfl) (by kernel_rfl) (by kernel_rfl) (fun _ _ _ h => h) (Or.inl ⟨by rfl, ?_⟩) hHeld ?_
            rotate_left
            · (intro w hSw; (try dsimp only at hSw); go_simp <;> with_reducible rfl)
            try simp only [Act.put, List.setIfInBounds_toArray, List.set_cons_zero, List.set_cons_succ]
            -- 4: t69 := load 22 t68 : 22
            refine wpB_take (i := 4) (v := ?_) (get_of_drop rfl) (by kernel_rfl) (by kernel_rfl) (by kernel_rfl) (by kernel_rfl) (fun _ _ _ h => h) (Or.inl ⟨by rfl, ?_⟩) hHeld ?_
            rotate_left
            · (intro w hSw; (try dsimp only at hSw); go_simp <;> with_reducible rfl)
            try simp only [Act.put, List.setIfInBounds_toArray, List.set_cons_zero, List.set_cons_succ]
            -- 5: t70 := move t0 : 51
            refine wpB_take (i := 5) (v := ?_) (get_of_drop rfl) (by kernel_rfl) (by kernel_rfl) (by kernel_rfl) (by kernel_rfl) (fun _ _ _ h => h) (Or.inl ⟨by rfl, ?_⟩) hHeld ?_
            rotate_left
            · (intro w hSw; (try dsimp only at hSw); go_simp <;> with_reducible rfl)
            try simp only [Act.put, List.setIfInBounds_toArray, List.set_cons_zero, List.set_cons_succ]
            -- 6: t71 := nilCheck t70 : 0
            refine wpB_take (i := 6) (v := ?_) (get_of_drop rfl) (by kernel_rfl) (by kernel_rfl) (by kernel_rfl) (by kernel_rfl) (fun _ _ _ h => h) (Or.inl ⟨by rfl, ?_⟩) hHeld ?_
            rotate_left
            · (intro w hSw; (try dsimp only at hSw); go_simp <;> with_reducible rfl)
            try simp only [Act.put, List.setIfInBounds_toArray, List.set_cons_zero, List.set_cons_succ]
            -- 7: t72 := fieldAddr 53 t71 1 : 0
            refine wpB_take (i := 7) (v := ?_) (get_of_drop rfl) (by kernel_rfl) (by kernel_rfl) (by kernel_rfl) (by kernel_rfl) (fun _ _ _ h => h) (Or.inl ⟨by rfl, ?_⟩) hHeld ?_
            rotate_left
            · (intro w hSw; (try dsimp only at hSw); go_simp <;> with_reducible rfl)
            try simp only [Act.put, List.setIfInBounds_toArray, List.set_cons_zero, List.set_cons_succ]
            -- 8: t73 := load 22 t72 : 22
            refine wpB_take (i := 8) (v := ?_) (get_of_drop rfl) (by kernel_rfl) (by kernel_rfl) (by kernel_rfl) (by kernel_rfl) (fun _ _ _ h => h) (Or.inl ⟨by rfl, ?_⟩) hHeld ?_
            rotate_left
            · (intro w hSw; (try dsimp only at hSw); go_simp <;> with_reducible rfl)
            try simp only [Act.put, List.setIfInBounds_toArray, List.set_cons_zero, List.set_cons_succ]
            -- 9: t74 := move t7 : 3
            refine wpB_take (i := 9) (v := ?_) (get_of_drop rfl) (by kernel_rfl) (by kernel_rfl) (by kernel_rfl) (by kernel_rfl) (fun _ _ _ h => h) (Or.inl ⟨by rfl, ?_⟩) hHeld ?_
            rotate_left
            · (intro w hSw; (try dsimp only at hSw); go_simp <;> with_reducible rfl)
            try simp only [Act.put, List.setIfInBounds_toArray, List.set_cons_zero, List.set_cons_succ]
            -- 10: t75 := indexAddr 22 t73 t74 : 0
            refine wpB_take (i := 10) (v := ?_) (get_of_drop rfl) (by kernel_rfl) (by kernel_rfl) (by kernel_rfl) (by kernel_rfl) (fun _ _ _ h => h) (Or.inl ⟨by rfl, ?_⟩) hHeld ?_
            rotate_left
            · (intro w hSw; (try dsimp only at hSw); go_simp <;> with_reducible rfl)
            try simp only [Act.put, List.setIfInBounds_toArray, List.set_cons_zero, List.set_cons_succ]
            -- 11: t76 := load 5 t75 : 5
            refine wpB_take (i := 11) (v := ?_) (get_of_drop rfl) (by kernel_rfl) (by kernel_rfl) (by kernel_rfl) (by kernel_rfl) (fun _ _ _ h => h) (Or.inl ⟨by rfl, ?_⟩) hHeld ?_
            rotate_left
            · (intro w hSw; (try dsimp only at hSw); go_simp <;> with_reducible rfl)
            try simp only [Act.put, List.setIfInBounds_toArray, List.set_cons_zero, List.set_cons_succ]
            -- 12: t77 := move t8 : 5
            refine wpB_take (i := 12) (v := ?_) (get_of_drop rfl) (by kernel_rfl) (by kernel_rfl) (by kernel_rfl) (by kernel_rfl) (fun _ _ _ h => h) (Or.inl ⟨by rfl, ?_⟩) hHeld ?_
            rotate_left
            · (intro w hSw; (try dsimp only at hSw); go_simp <;> with_reducible rfl)
            try simp only [Act.put, List.setIfInBounds_toArray, List.set_cons_zero, List.set_cons_succ]
            -- 13: t78 := binOp BinOp.xor 5 t76 t77 5 : 5
            refine wpB_take (i := 13) (v := ?_) (get_of_drop rfl) (by kernel_rfl) (by kernel_rfl) (by kernel_rfl) (by kernel_rfl) (fun _ _ _ h => h) (Or.inl ⟨by rfl, ?_⟩) hHeld ?_
            rotate_left
            · (intro w hSw; (try dsimp only at hSw); go_simp <;> with_reducible rfl)
            try simp only [Act.put, List.setIfInBounds_toArray, List.set_cons_zero, List.set_cons_succ]
            -- 14: t79 := buildSlice 22 1 [⟨0, t78⟩] : 22
            refine wpB_act (i := 14) (by kernel_rfl) (get_of_drop rfl) (fun K hK => ?_)
            go_simp
            refine hK.out _ _ ?_ (fun hHeld2 => ?_)
            · (first | assumption | exact hHeld.alloc _ | exact hHeld.trans h2 (fun _ h _ => (MM.out _).2 h))
            clear hHeld hK K
            have hHeld := hHeld2
            clear hHeld2
            try simp only [Act.put, List.setIfInBounds_toArray, List.set_cons_zero, List.set_cons_succ]
            -- 15: t80 := append(t69, t79) types [22, 22] : 22
            refine wpB_act (i := 15) (by kernel_rfl) (get_of_drop rfl) (fun K hK => ?_)
            refine app_step _ rfl (.tmp 69) (.tmp 79) 22 5 (.int .u8 0) 1 1 rfl Try.underlying22 info5 rfl (by decide) (by decide) (.slice A' nk c') nk (u8s (ts ++ turned (tl.take k) l)) rfl (by have q := fun W (hW : Chg (fun _ => False) wr W) => hW.own HT.out.safe (fun _ _ h => h); simp only at q; rw [← NN.out] at q; exact q _ ((Chg.refl _ wr).alloc _).drew) (some ⟨wr.heap.size, 0, none⟩) 1 1 _ _ rfl (by simp) (by omega) rfl ((one_sees wr _ 5).chg ((Chg.refl (fun _ => False) _).drew) (fun _ _ h => h)) (by simp [Value.oneCell']) (by have := HSL.out; rw [NN.out, List.length_append, turned_length, List.length_take]; omega) ?_
            have HH := hid hHeld
            intro A2 c2 w2 h1 h2 h3
            have f0' : w2.frozen? ⟨g, 0, none⟩ = false := freeAt ((HH.out.trans h2 (fun _ h _ => (MM.out _).2 h)).blk HT.out.blk (fun h => HT.out.neS ((MM.out _).1 h))) 0
            have c0' : w2.cell? ⟨g, 0, none⟩ = some (.slice A' nk c') := hcell0 _ (HH.out.trans h2 (fun _ h _ => (MM.out _).2 h))
            refine hK.out _ _ ?_ (fun hHeld2 => ?_)
            · (first | assumption | exact hHeld.alloc _ | exact hHeld.trans h2 (fun _ h _ => (MM.out _).2 h))
            clear hHeld hK K
            have hHeld := hHeld2
            clear hHeld2
            try simp only [Act.put, List.setIfInBounds_toArray, List.set_cons_zero, List.set_cons_succ]
            -- 16: t81 := nilCheck t65 : 0
            refine wpB_take (i := 16) (v := ?_) (get_of_drop rfl) (by kernel_rfl) (by kernel_rfl) (by kernel_rfl) (by kernel_rfl) (fun _ _ _ h => h) (Or.inl ⟨by rfl, ?_⟩) hHeld ?_
            rotate_left
            · (intro w hSw; (try dsimp only at hSw); go_simp <;> with_reducible rfl)
            try simp only [Act.put, List.setIfInBounds_toArray, List.set_cons_zero, List.set_cons_succ]
            -- 17: t82 := fieldAddr 53 t81 0 : 0
            refine wpB_take (i := 17) (v := ?_) (get_of_drop rfl) (by kernel_rfl) (by kernel_rfl) (by kernel_rfl) (by kernel_rfl) (fun _ _ _ h => h) (Or.inl ⟨by rfl, ?_⟩) hHeld ?_
            rotate_left
            · (intro w hSw; (try dsimp only at hSw); go_simp <;> with_reducible rfl)
            try simp only [Act.put, List.setIfInBounds_toArray, List.set_cons_zero, List.set_cons_succ]
            -- 18: t- := store 22 t82 t80 : 0 (BARRIER)
            refine wpB_bar (i := 18) (by kernel_rfl) (get_of_drop rfl) (by kernel_rfl) (fun K hK => ?_)
            go_simp
            refine hK.out _ _ (fun _ : World => True) ?_
            clear hHeld hK K
            have hHeld := trivial
            try simp only [Act.put, List.setIfInBounds_toArray, List.set_cons_zero, List.set_cons_succ]
            refine wpB_done (by kernel_rfl) ?_ _
            have G1 := hid h1
            have G2 := hid (((Chg.refl (fun j => (Value.slice A' nk c').ownBlock = some j) wr).alloc _).drew.trans h2 (fun _ h _ => h))
            have G3 := hid h3
            clear h1 h2 h3 hHeld hcell0 hcell1 hcelly
            have hN := kept_more (t := ⟨ts, tl, tr, tlf, ta, td⟩) HC.out HT.out HY.out (z := y) (by rw [HX.out]) NN.out (by have q := G1.out; rw [xor0] at q; exact q) G2.out (fun j hj => by
              rcases G3.out j hj with q | q
              · exact .inl q
              · exact .inr (by simp at q; omega))
            have HN := hid hN
            clear hN
            go_wp2_with fail
            go_roundw
            case measure => simp [intOf]; omega
            case rel => first | exact ⟨k + 1, by omega, by go_num, HN.out⟩ | ((repeat apply Exists.intro); exact ⟨⟨k + 1, by omega, by go_num, HN.out⟩, rfl⟩)
        · clear hT hC
          go_wp2_with fail
          go_ret
          have hkq : k = q := by omega
          subst hkq
          exact HFIN.out _ HK.out
    · have hq0 : q = 0 := by have := HQI.out; omega
      go_wp2_with fail
      clear d0 d1 d2 d3 d4 d5 e0 e1 e3 e4 e5
      subst hq0
      go_loopw [52] (fun i wr => i = .int .i64 0 ∧ Kept (fun k => S k ∧ k < w.heap.size) g (.slice Al tl.length cl) ⟨ts, tl, tr, tlf, ta, td⟩ l w3 0 wr) (fun i _ => 0)
      case atStart => exact ⟨rfl, HI00.out⟩
      case round =>
        obtain ⟨rfl, hI⟩ := hrel
        have HK := hid hI
        obtain ⟨⟨vs', hT⟩, hC⟩ := hI
        have f1 := hT.free 1
        have f4 := hT.free 4
        have f5 := hT.free 5
        obtain ⟨_, c1, _, _, c4, c5⟩ := hT.cells
        simp only at c1 c4 c5
        clear hT hC
        go_wp2_with fail
        go_ret
        exact HFIN.out _ HK.out
  by_cases k0 : kind < 1 ∨ 5 < kind
  · have EQ := hid (show (TW.step ⟨ts, tl, tr, tlf, ta, td⟩ kind n l) = (⟨ts, tl, tr, tlf, ta, td⟩, 0) by simp only [TW.step, if_neg k4, if_neg k5, if_pos k0])
    have K4 := hid k4
    rcases k0 with k0 | k0
    · go_wp2_with fail
      go_ret
      rw [EQ.out]
      exact ⟨_, _, rfl, HSAME.out, CW.out⟩
    · have k0' : ¬ kind < 1 := by omega
      go_wp2_with fail
      go_ret
      rw [EQ.out]
      exact ⟨_, _, rfl, HSAME.out, CW.out⟩
  have k123 : kind = 1 ∨ kind = 2 ∨ kind = 3 := by omega
  have hstep : (TW.step ⟨ts, tl, tr, tlf, ta, td⟩ kind n l) = if td = true then (⟨ts, tl, tr, tlf, ta, td⟩, 40) else if kind = 1 ∧ tr - (ts ++ tl).length < l.length then (⟨ts, tl, tr, tlf, ta, td⟩, 41) else if kind = 3 ∧ (n < 0 ∨ ((ts ++ tl).length : Int) < n) then (⟨ts, tl, tr, tlf, ta, td⟩, 13)
      else if (TW.falls ⟨ts, tl, tr, tlf, ta, td⟩).2 = true then ((TW.falls ⟨ts, tl, tr, tlf, ta, td⟩).1.loosed kind l, 40) else (((TW.falls ⟨ts, tl, tr, tlf, ta, td⟩).1.loosed kind l).ended kind n (ts ++ tl), 0) := by
    simp only [TW.step, if_neg k4, if_neg k5, if_neg k0]
  cases td with
  | true =>
    have EQ := hid (show (TW.step ⟨ts, tl, tr, tlf, ta, true⟩ kind n l) = (⟨ts, tl, tr, tlf, ta, true⟩, 40) by rw [hstep, if_pos rfl])
    clear hstep k0 k4 k5
    rcases k123 with rfl | rfl | rfl
    all_goals
      go_wp2_with fail
      go_ret
      rw [EQ.out]
      exact ⟨_, _, rfl, HSAME.out, CW.out⟩
  | false =>
    rw [if_neg (by simp)] at hstep
    have hfall : ∃ tlf' ta' fell, TW.falls ⟨ts, tl, tr, tlf, ta, false⟩ = (⟨ts, tl, tr, tlf', ta', fell⟩, fell) := by
      cases ta with
      | false => exact ⟨tlf, false, false, by simp [TW.falls]⟩
      | true =>
        by_cases h0 : tlf = 0
        · exact ⟨tlf, false, true, by simp [TW.falls, h0]⟩
        · exact ⟨tlf - 1, true, false, by simp [TW.falls, h0]⟩
    obtain ⟨tlf', ta', fell, hf⟩ := hfall
    have HF := hid hf
    rw [hf] at hstep
    simp only at hstep
    have hlen : (((ts ++ tl).length : Nat) : Int) = (nn : Int) := by rw [← NN.out, List.length_append]
    rw [hlen] at hstep
    have HSTEP := hid hstep
    have hnn : (nn : Int) ≤ 1048576 := by have := HSL.out; have := NN.out; omega
    have hnn0 : (0 : Int) ≤ (nn : Int) := Int.natCast_nonneg _
    have hw : IntKind.i64.wrap (tr - (nn : Int)) = tr - (nn : Int) := IntWalk.i64_in _ (by omega)
    have HP := hid hp
    have HMM := hid hm
    have hml : (m : Int) = (l.length : Int) := by rw [HM.out]
    have HML := hid hml
    clear hstep hf hlen k0 k4 k5 hp hm hml
    have hx4 : ∀ w4, Chg (fun k => k = g) w3 w4 → w4.cell? ⟨w.heap.size, 0, none⟩ = some (.int .i64 kind) ∧ w4.cell? ⟨w.heap.size, 1, none⟩ = some (.int .i64 n) ∧ w4.cell? ⟨w.heap.size, 2, none⟩ = some (.slice A m c) := fun w4 h4 => ⟨h4.cell hx0 hgb', h4.cell hx1 hgb', h4.cell hx2 hgb'⟩
    have HX4 := hid hx4
    clear hx4
    rcases k123 with rfl | rfl | rfl
    · by_cases hno : tr - (nn : Int) < (m : Int)
      · have EQ := hid (show (TW.step ⟨ts, tl, tr, tlf, ta, false⟩ 1 n l) = (⟨ts, tl, tr, tlf, ta, false⟩, 41) by rw [HSTEP.out, if_pos ⟨rfl, by rw [← HML.out]; exact hno⟩])
        go_wp2_with fail
        go_quiet (fail)
        go_wp2_with fail
        go_ret
        rw [EQ.out]
        exact ⟨_, _, rfl, HSAME.out.chg ((Chg.refl (fun _ => False) w3).drewN _) (fun _ _ h => h), CW.out.drewN _⟩
      · have EQ := hid (show (TW.step ⟨ts, tl, tr, tlf, ta, false⟩ 1 n l) = (⟨ts, tl ++ l, tr, tlf', ta', fell⟩, if fell = true then 40 else 0) by
          rw [HSTEP.out, if_neg (fun h => hno (by rw [HML.out]; exact h.2)), if_neg (by simp)]
          cases fell <;> simp [TW.loosed, TW.ended])
        have hno' : ¬ tr - (nn : Int) < (m : Int) := hno
        go_wp2_with fail
        go_quiet (fail)
        go_wp2_with fail
        refine (falls_any _ g _ _ _ _ (H3.out.chg ((Chg.refl (fun _ => False) w3).drewN _) (fun _ _ h => h)) HP.out HMM.out).mono ?_
        rintro e w4 ⟨rfl, h3, h4⟩
        rw [HF.out] at h3 ⊢
        have H4 := hid h3
        have C4 := hid (((Chg.refl (fun k => k = g) w3).drewN _).trans h4 (fun _ h _ => h))
        obtain ⟨hy0, hy1, hy2⟩ := HX4.out w4 C4.out
        obtain ⟨_, c1, _, _, _, _⟩ := h3.cells
        have f1 := h3.free 1
        have HLW := hid (HL3W.out.chg C4.out (fun k hk hg => hR k hk (by subst hg; exact H.out.inS)))
        clear h3 h4 hx0 hx1 hx2 d0 d1 d2 d3 d4 d5 e0 e1 e3 e4 e5
        obtain ⟨M, hMM⟩ : ∃ M : Nat → Prop, ∀ j, M j ↔ (Value.slice Al tl.length cl).ownBlock = some j := ⟨_, fun _ => Iff.rfl⟩
        have MM := hid hMM
        clear hMM
        have hcell1 : ∀ wx, Chg M w4 wx → wx.cell? ⟨g, 1, none⟩ = some (.slice Al tl.length cl) := fun wx hx => hx.cell c1 (fun h => H4.out.neL ((MM.out _).1 h))
        have hcell2 : ∀ wx, Chg M w4 wx → wx.cell? ⟨w.heap.size, 2, none⟩ = some (.slice A m c) := fun wx hx => hx.cell hy2 (fun h => by
          have := own_lt H.out.loose _ ((MM.out _).1 h); exact Nat.lt_irrefl _ this)
        have hml : m ≤ 300 := by have := HM.out; have := HL3.out; omega
        cases fell
        all_goals
          go_wp2_with fail
          refine wpB_start (fun wx : World => Chg M w4 wx) (by kernel_rfl) ?_
          have hHeld : (fun wx : World => Chg M w4 wx) _ := (by first | assumption | exact Chg.drew (Chg.refl _ _) | (show _ ∧ _; refine ⟨?_, ?_⟩ <;> assumption) | (first | assumption | exact hHeld.trans h2 (fun _ h _ => (MM.out _).2 h)))
          -- 0: t145 := move t0 : 51
          refine wpB_take (i := 0) (v := ?_) (get_of_drop rfl) (by kernel_rfl) (by kernel_rfl) (by kernel_rfl) (by kernel_rfl) (fun _ _ _ h => h) (Or.inl ⟨by rfl, ?_⟩) hHeld ?_
          rotate_left
          · (intro w hSw; (try dsimp only at hSw); go_simp <;> with_reducible rfl)
          try simp only [Act.put, List.setIfInBounds_toArray, List.set_cons_zero, List.set_cons_succ]
          -- 1: t146 := move t0 : 51
          refine wpB_take (i := 1) (v := ?_) (get_of_drop rfl) (by kernel_rfl) (by kernel_rfl) (by kernel_rfl) (by kernel_rfl) (fun _ _ _ h => h) (Or.inl ⟨by rfl, ?_⟩) hHeld ?_
          rotate_left
          · (intro w hSw; (try dsimp only at hSw); go_simp <;> with_reducible rfl)
          try simp only [Act.put, List.setIfInBounds_toArray, List.set_cons_zero, List.set_cons_succ]
          -- 2: t147 := nilCheck t146 : 0
          refine wpB_take (i := 2) (v := ?_) (get_of_drop rfl) (by kernel_rfl) (by kernel_rfl) (by kernel_rfl) (by kernel_rfl) (fun _ _ _ h => h) (Or.inl ⟨by rfl, ?_⟩) hHeld ?_
          rotate_left
          · (intro w hSw; (try dsimp only at hSw); go_simp <;> with_reducible rfl)
          try simp only [Act.put, List.setIfInBounds_toArray, List.set_cons_zero, List.set_cons_succ]
          -- 3: t148 := fieldAddr 53 t147 1 : 0
          refine wpB_take (i := 3) (v := ?_) (get_of_drop rfl) (by kernel_rfl) (by kernel_rfl) (by kernel_rfl) (by kernel_rfl) (fun _ _ _ h => h) (Or.inl ⟨by rfl, ?_⟩) hHeld ?_
          rotate_left
          · (intro w hSw; (try dsimp only at hSw); go_simp <;> with_reducible rfl)
          try simp only [Act.put, List.setIfInBounds_toArray, List.set_cons_zero, List.set_cons_succ]
          -- 4: t149 := load 22 t148 : 22
          refine wpB_take (i := 4) (v := ?_) (get_of_drop rfl) (by kernel_rfl) (by kernel_rfl) (by kernel_rfl) (by kernel_rfl) (fun _ _ _ h => h) (Or.inl ⟨by rfl, ?_⟩) hHeld ?_
          rotate_left
          · (intro w hSw; (try dsimp only at hSw); go_simp <;> with_reducible rfl)
          try simp only [Act.put, List.setIfInBounds_toArray, List.set_cons_zero, List.set_cons_succ]
          -- 5: t150 := fieldAddr 48 t3 2 : 0
          refine wpB_take (i := 5) (v := ?_) (get_of_drop rfl) (by kernel_rfl) (by kernel_rfl) (by kernel_rfl) (by kernel_rfl) (fun _ _ _ h => h) (Or.inl ⟨by rfl, ?_⟩) hHeld ?_
          rotate_left
          · (intro w hSw; (try dsimp only at hSw); go_simp <;> with_reducible rfl)
          try simp only [Act.put, List.setIfInBounds_toArray, List.set_cons_zero, List.set_cons_succ]
          -- 6: t151 := load 22 t150 : 22
          refine wpB_take (i := 6) (v := ?_) (get_of_drop rfl) (by kernel_rfl) (by kernel_rfl) (by kernel_rfl) (by kernel_rfl) (fun _ _ _ h => h) (Or.inl ⟨by rfl, ?_⟩) hHeld ?_
          rotate_left
          · (intro w hSw; (try dsimp only at hSw); go_simp <;> with_reducible rfl)
          try simp only [Act.put, List.setIfInBounds_toArray, List.set_cons_zero, List.set_cons_succ]
          -- 7: t152 := append(t149, t151) types [22, 22] : 22
          refine wpB_act (i := 7) (by kernel_rfl) (get_of_drop rfl) (fun K hK => ?_)
          refine app_step _ rfl (.tmp 149) (.tmp 151) 22 5 (.int .u8 0) 1 1 rfl Try.underlying22 info5 rfl (by decide) (by decide) (.slice Al tl.length cl) tl.length (u8s tl) rfl (((Chg.refl (fun _ => False) w4).drew).own H4.out.loose (fun _ _ h => h)) A m c (u8s l) R rfl HLL.out.2.2.2.1 HLL.out.2.1 (by rw [u8s_length, HM.out]; omega) (HLW.out.bytes.chg ((Chg.refl (fun _ => False) w4).drew) (fun _ _ h => h)) (u8s_one _) (by have := HSL.out; omega) ?_
          have HH := hid hHeld
          intro A2 c2 w2 h1 h2 h3
          have f1' : w2.frozen? ⟨g, 1, none⟩ = false := freeAt ((HH.out.trans h2 (fun _ h _ => (MM.out _).2 h)).blk H4.out.blk (fun h => H4.out.neL ((MM.out _).1 h))) 1
          have c1' : w2.cell? ⟨g, 1, none⟩ = some (.slice Al tl.length cl) := hcell1 _ (HH.out.trans h2 (fun _ h _ => (MM.out _).2 h))
          have x0' : w2.cell? ⟨w.heap.size, 0, none⟩ = some (.int .i64 1) := (HH.out.trans h2 (fun _ h _ => (MM.out _).2 h)).cell hy0 (fun h => Nat.lt_irrefl _ (own_lt H.out.loose _ ((MM.out _).1 h)))
          refine hK.out _ _ ?_ (fun hHeld2 => ?_)
          · (first | assumption | exact hHeld.trans h2 (fun _ h _ => (MM.out _).2 h))
          clear hHeld hK K
          have hHeld := hHeld2
          clear hHeld2
          try simp only [Act.put, List.setIfInBounds_toArray, List.set_cons_zero, List.set_cons_succ]
          -- 8: t153 := nilCheck t145 : 0
          refine wpB_take (i := 8) (v := ?_) (get_of_drop rfl) (by kernel_rfl) (by kernel_rfl) (by kernel_rfl) (by kernel_rfl) (fun _ _ _ h => h) (Or.inl ⟨by rfl, ?_⟩) hHeld ?_
          rotate_left
          · (intro w hSw; (try dsimp only at hSw); go_simp <;> with_reducible rfl)
          try simp only [Act.put, List.setIfInBounds_toArray, List.set_cons_zero, List.set_cons_succ]
          -- 9: t154 := fieldAddr 53 t153 1 : 0
          refine wpB_take (i := 9) (v := ?_) (get_of_drop rfl) (by kernel_rfl) (by kernel_rfl) (by kernel_rfl) (by kernel_rfl) (fun _ _ _ h => h) (Or.inl ⟨by rfl, ?_⟩) hHeld ?_
          rotate_left
          · (intro w hSw; (try dsimp only at hSw); go_simp <;> with_reducible rfl)
          try simp only [Act.put, List.setIfInBounds_toArray, List.set_cons_zero, List.set_cons_succ]
          -- 10: t- := store 22 t154 t152 : 0 (BARRIER)
          refine wpB_bar (i := 10) (by kernel_rfl) (get_of_drop rfl) (by kernel_rfl) (fun K hK => ?_)
          go_simp
          refine hK.out _ _ (fun _ : World => True) ?_
          clear hHeld hK K
          have hHeld := trivial
          try simp only [Act.put, List.setIfInBounds_toArray, List.set_cons_zero, List.set_cons_succ]
          refine wpB_done (by kernel_rfl) ?_ _
          have hP := H4.out.put1 (L := tl ++ l) ((Chg.refl (fun k => (Value.slice Al tl.length cl).ownBlock = some k) w4).drew.trans h2 (fun _ h _ => h)) (by rw [List.length_append, ← HM.out, u8s_append]; exact h1) (fun k hk => h3 k hk)
          have HPP := hid hP
          clear hP h1 h2 h3 hHeld hcell1 hcell2
          go_wp2_with fail
          go_ret
          rw [EQ.out]
          refine ⟨_, _, rfl, HPP.out.1.mono (fun k hk => ?_), (CW.out.trans C4.out (fun k hk _ => by subst hk; exact H.out.inS)).trans HPP.out.2 (fun _ h _ => h)⟩
          rcases hk with hk | hk
          · exact .inl hk
          · exact .inr (by have := CW.out.size; have := C4.out.size; omega)
    · have EQ := hid (show (TW.step ⟨ts, tl, tr, tlf, ta, false⟩ 2 n l) = if fell = true then (⟨ts, tl, tr, tlf', ta', true⟩, 40) else (⟨ts ++ tl, [], tr, tlf', ta', false⟩, 0) by
        rw [HSTEP.out, if_neg (by simp), if_neg (by simp)]
        cases fell <;> simp [TW.loosed, TW.ended])
      go_wp2_with fail
      go_quiet (fail)
      go_wp2_with fail
      refine (falls_any _ g _ _ _ _ (H3.out.chg ((Chg.refl (fun _ => False) w3).drewN _) (fun _ _ h => h)) HP.out HMM.out).mono ?_
      rintro e w4 ⟨rfl, h3, h4⟩
      rw [HF.out] at h3 ⊢
      have H4 := hid h3
      have C4 := hid (((Chg.refl (fun k => k = g) w3).drewN _).trans h4 (fun _ h _ => h))
      obtain ⟨hy0, hy1, hy2⟩ := HX4.out w4 C4.out
      obtain ⟨c0, c1, _, _, _, _⟩ := h3.cells
      have f0 := h3.free 0
      have f1 := h3.free 1
      clear h3 h4 hx0 hx1 hx2 d0 d1 d2 d3 d4 d5 e0 e1 e3 e4 e5
      have hfin : TwAt ((w4.setCell ⟨g, 0, none⟩ (.slice A3 nn c3)).setCell ⟨g, 1, none⟩ (.slice none 0 0)) (fun k => S k ∨ w.heap.size ≤ k) g (.slice A3 nn c3) (.slice none 0 0) ⟨ts ++ tl, [], tr, tlf', ta', fell⟩ := by
        refine TwAt.re H4.out.blk ((chg_g w4 0 _).trans (chg_g _ 1 _) (fun _ h _ => h)) (blk_set (blk_set H4.out.blk 0 _) 1 _) (.inl H.out.inS) ?_ (own_nil _ _ _) (fun k hk => .inr (by have := FA.out k hk; have := ZB.out; omega)) (fun k hk => by simp [Value.ownBlock] at hk) (fun k _ hk => by simp [Value.ownBlock] at hk)
        have q := C4.out.own OA.out (fun k hk hg => by have := FA.out k hk; have := ZB.out; have := lt_of_blk H.out.blk; omega)
        rw [show (ts ++ tl).length = nn by rw [← NN.out, List.length_append]]
        exact q
      have HFIN := hid hfin
      clear hfin
      have CF := hid (CW.out.trans C4.out (fun k hk _ => by subst hk; exact H.out.inS))
      cases fell
      all_goals
        go_wp2_with fail
        go_ret
        rw [EQ.out]
        first | exact ⟨_, _, rfl, HFIN.out, CF.out.trans ((chg_g w4 0 _).trans (chg_g _ 1 _) (fun _ h _ => h)) (fun k hk _ => by subst hk; exact H.out.inS)⟩ | exact ⟨_, _, rfl, H4.out.mono (fun k hk => .inl hk), CF.out⟩
    · by_cases hr : n < 0 ∨ (nn : Int) < n
      · have EQ := hid (show (TW.step ⟨ts, tl, tr, tlf, ta, false⟩ 3 n l) = (⟨ts, tl, tr, tlf, ta, false⟩, 13) by rw [HSTEP.out, if_neg (by simp), if_pos ⟨rfl, hr⟩])
        rcases hr with hr | hr
        · go_wp2_with fail
          go_quiet (fail)
          go_wp2_with fail
          go_ret
          rw [EQ.out]
          exact ⟨_, _, rfl, HSAME.out.chg ((Chg.refl (fun _ => False) w3).drewN _) (fun _ _ h => h), CW.out.drewN _⟩
        · have hr' : ¬ n < 0 := by omega
          go_wp2_with fail
          go_quiet (fail)
          go_wp2_with fail
          go_ret
          rw [EQ.out]
          exact ⟨_, _, rfl, HSAME.out.chg ((Chg.refl (fun _ => False) w3).drewN _) (fun _ _ h => h), CW.out.drewN _⟩
      · obtain ⟨p, rfl⟩ := Int.eq_ofNat_of_zero_le (show 0 ≤ n by omega)
        have hpn : p ≤ nn := by omega
        have EQ := hid (show (TW.step ⟨ts, tl, tr, tlf, ta, false⟩ 3 (p : Int) l) = if fell = true then (⟨ts, tl, tr, tlf', ta', true⟩, 40) else (⟨(ts ++ tl).take p, [], tr, tlf', ta', false⟩, 0) by
          rw [HSTEP.out, if_neg (by simp), if_neg (fun h => hr h.2)]
          cases fell <;> simp [TW.loosed, TW.ended])
        have hr1' : ¬ (p : Int) < 0 := by omega
        have hr2' : ¬ (nn : Int) < (p : Int) := by omega
        obtain ⟨i5, hi5, _, hz5, _⟩ := info_parts info5
        have hcut := cut_to (P := Try.prog) 22 5 .i64 Try.underlying22 hi5 A3 nn c3 p (by have := (own_at OA.out).1; omega)
        clear hi5 hz5 hr
        go_wp2_with fail
        go_quiet (fail)
        go_wp2_with fail
        refine (falls_any _ g _ _ _ _ (H3.out.chg ((Chg.refl (fun _ => False) w3).drewN _) (fun _ _ h => h)) HP.out HMM.out).mono ?_
        rintro e w4 ⟨rfl, h3, h4⟩
        rw [HF.out] at h3 ⊢
        have H4 := hid h3
        have C4 := hid (((Chg.refl (fun k => k = g) w3).drewN _).trans h4 (fun _ h _ => h))
        obtain ⟨hy0, hy1, hy2⟩ := HX4.out w4 C4.out
        obtain ⟨c0, c1, _, _, _, _⟩ := h3.cells
        have f0 := h3.free 0
        have f1 := h3.free 1
        clear h3 h4 hx0 hx1 hx2 d0 d1 d2 d3 d4 d5 e0 e1 e3 e4 e5
        have hfin : TwAt ((w4.setCell ⟨g, 0, none⟩ (.slice A3 p c3)).setCell ⟨g, 1, none⟩ (.slice none 0 0)) (fun k => S k ∨ w.heap.size ≤ k) g (.slice A3 p c3) (.slice none 0 0) ⟨(ts ++ tl).take p, [], tr, tlf', ta', fell⟩ := by
          refine TwAt.re H4.out.blk ((chg_g w4 0 _).trans (chg_g _ 1 _) (fun _ h _ => h)) (blk_set (blk_set H4.out.blk 0 _) 1 _) (.inl H.out.inS) ?_ (own_nil _ _ _) (fun k hk => .inr (by have := FA.out k (by cases A3 <;> exact hk); have := ZB.out; omega)) (fun k hk => by simp [Value.ownBlock] at hk) (fun k _ hk => by simp [Value.ownBlock] at hk)
          have q := C4.out.own OA.out (fun k hk hg => by have := FA.out k hk; have := ZB.out; have := lt_of_blk H.out.blk; omega)
          rw [show ((ts ++ tl).take p).length = p by rw [List.length_take, List.length_append]; have := NN.out; omega, u8s_take]
          exact own_take q hpn
        have HFIN := hid hfin
        clear hfin
        have CF := hid (CW.out.trans C4.out (fun k hk _ => by subst hk; exact H.out.inS))
        cases fell
        all_goals
          go_wp2_with fail
          go_ret
          rw [EQ.out]
          first | exact ⟨_, _, rfl, HFIN.out, CF.out.trans ((chg_g w4 0 _).trans (chg_g _ 1 _) (fun _ h _ => h)) (fun k hk _ => by subst hk; exact H.out.inS)⟩ | exact ⟨_, _, rfl, H4.out.mono (fun k hk => .inl hk), CF.out⟩
end Go.Proofs.Ytmllakklhbmboaa.T
