/- Contracts of post.Post's methods. -/
import Derived.Test.YtmllakklhbmboaaTape
import Derived.Test.YtmllakklhbmboaaTy
import Derived.Test.YtmllakklhbmboaaVec
namespace Go.Proofs.Ytmllakklhbmboaa.Po
set_option linter.unusedVariables false
set_option linter.unusedSimpArgs false
open Go.RowKit Go.Proofs.Ytmllakklhbmboaa.C
attribute [local go_sem] max2_int min2_int max_two min_two

/-- A packet as plain data. -/
structure Pk where
  src : Int
  dst : Int
  data : List UInt8
def pkK : Ty Pk := Ty.iso (Ty.pair (Ty.int .i64) (Ty.pair (Ty.int .i64) (Ty.slice Ty.u8))) (fun x => (x.src, x.dst, x.data))
theorem pkK_sz : pkK.sz = 3 := rfl
/-- What a packet's three cells hold. -/
def PkAt (w : World) (S : Nat → Prop) (x : Pk) (A : Option Addr) (n c : Nat) : Prop := (Lit.int .i64 x.src).wf = true ∧ (Lit.int .i64 x.dst).wf = true ∧ Ty.At Ty.u8 w S A n c x.data
theorem pk_open {w : World} {S : Nat → Prop} {x : Pk} {cs : List Value} (h : pkK.K w S x cs) : ∃ A n c, cs = [.int .i64 x.src, .int .i64 x.dst, .slice A n c] ∧ PkAt w S x A n c := by
  obtain ⟨_, _, rfl, ⟨rfl, wf1⟩, _, _, rfl, ⟨rfl, wf2⟩, A, n, c, rfl, hd⟩ := h
  exact ⟨A, n, c, rfl, wf1, wf2, hd⟩
theorem pk_shut {w : World} {S : Nat → Prop} {x : Pk} {A : Option Addr} {n c : Nat} (h : PkAt w S x A n c) : pkK.K w S x [.int .i64 x.src, .int .i64 x.dst, .slice A n c] :=
  ⟨[_], [_, _], rfl, ⟨rfl, h.1⟩, [_], [_], rfl, ⟨rfl, h.2.1⟩, A, n, c, rfl, h.2.2⟩
theorem PkAt.chg {w w' : World} {S M : Nat → Prop} {x : Pk} {A : Option Addr} {n c : Nat} (h : PkAt w S x A n c) (hc : Chg M w w') (hd : ∀ k, S k → ¬ M k) : PkAt w' S x A n c := ⟨h.1, h.2.1, h.2.2.chg hc hd⟩
theorem PkAt.mono {w : World} {S S' : Nat → Prop} {x : Pk} {A : Option Addr} {n c : Nat} (h : PkAt w S x A n c) (hd : ∀ k, S k → S' k) : PkAt w S' x A n c := ⟨h.1, h.2.1, h.2.2.mono hd⟩

theorem PkAt.bound {w : World} {S : Nat → Prop} {x : Pk} {A : Option Addr} {n c : Nat} (h : PkAt w S x A n c) : PkAt w (fun k => S k ∧ k < w.heap.size) x A n c := ⟨h.1, h.2.1, h.2.2.bound⟩

theorem info38 : (Try.prog.info? 38).map (fun i => (i.zero, i.size, i.bytes)) = some (some (.agg #[.int .i64 0, .int .i64 0, .slice none 0 0]), 3, 40) := by kernel_rfl

set_option maxHeartbeats 400000 in
/-- A packet is copied. -/
theorem copied_any (S : Nat → Prop) (x : Pk) (A : Option Addr) (n c : Nat) (w : World) (h : PkAt w S x A n c) (hl : x.data.length ≤ 140737488355328) :
    Calls Try.prog 39 #[.agg #[.int .i64 x.src, .int .i64 x.dst, .slice A n c]] w fun e w' => ∃ A' c', e = .returned (.agg #[.int .i64 x.src, .int .i64 x.dst, .slice A' n c']) ∧ PkAt w' (fun k => w.heap.size ≤ k) x A' n c' ∧ Chg (fun _ => False) w w' := by
  have H := hid h
  obtain ⟨f, d, l⟩ := x
  simp only at H hl ⊢
  have HL := hid hl
  clear h hl
  have B1 := hid (show ∀ (W : World), Chg (fun _ => False) ((w.alloc (.cells #[.int .i64 f, .int .i64 d, .slice A n c] 38)).alloc (.cells #[.int .i64 0, .int .i64 0, .slice none 0 0] 38)) W → W.heap[w.heap.size]? = some (.cells #[.int .i64 f, .int .i64 d, .slice A n c] 38 (0, 0)) from fun W hW => hW.blk (blk_alloc (blk_new w _) _) (fun h => h))
  have B2 := hid (show ∀ (W : World), Chg (fun _ => False) ((w.alloc (.cells #[.int .i64 f, .int .i64 d, .slice A n c] 38)).alloc (.cells #[.int .i64 0, .int .i64 0, .slice none 0 0] 38)) W → W.heap[w.heap.size + 1]? = some (.cells #[.int .i64 0, .int .i64 0, .slice none 0 0] 38 (0, 0)) from fun W hW => hW.blk (by have := blk_new (w.alloc (.cells #[.int .i64 f, .int .i64 d, .slice A n c] 38)) (.cells #[.int .i64 0, .int .i64 0, .slice none 0 0] 38); simpa using this) (fun h => h))
  go_enter Try.func39, Try.ntmps39
  go_wp2_with fail
  refine (T.clone_any A l n c S _ H.out.2.2.2.2.2.1 H.out.2.2.1 H.out.2.2.2.1 (H.out.2.2.bytes.chg (((Chg.refl (fun _ => False) w).alloc _).alloc _) (fun _ _ h => h)) (by have q : n = l.length := H.out.2.2.1; have := HL.out; omega)).mono ?_
  rintro e w2 ⟨v, rfl, h1, h2, h3⟩
  obtain ⟨A', c', hv, k1, k2, k3, k4⟩ := own_sees h1
  subst hv
  have C2 := hid h2
  have K := hid (Ty.At.of_bytes (S := fun k => w.heap.size + 1 < k) (H.out.2.2.1) k1 k2 k3 (k4.mono (fun k hk => by have := h3 k hk; simp at this; omega)))
  have b1 := B1.out w2 h2
  have b2 := B2.out w2 h2
  have x0 : w2.cell? ⟨w.heap.size, 0, none⟩ = some (.int .i64 f) := by rw [cellAt b1]; rfl
  have x1 : w2.cell? ⟨w.heap.size, 1, none⟩ = some (.int .i64 d) := by rw [cellAt b1]; rfl
  have x2 : w2.cell? ⟨w.heap.size, 2, none⟩ = some (.slice A n c) := by rw [cellAt b1]; rfl
  have y0 : w2.cell? ⟨w.heap.size + 1, 0, none⟩ = some (.int .i64 0) := by rw [cellAt b2]; rfl
  have y1 : w2.cell? ⟨w.heap.size + 1, 1, none⟩ = some (.int .i64 0) := by rw [cellAt b2]; rfl
  have y2 : w2.cell? ⟨w.heap.size + 1, 2, none⟩ = some (.slice none 0 0) := by rw [cellAt b2]; rfl
  have fx := freeAt b1 2
  have fy0 := freeAt b2 0
  have fy1 := freeAt b2 1
  have fy2 := freeAt b2 2
  clear h1 h2 h3 k1 k2 k3 k4 b1 b2
  go_wp2_with fail
  have hb1 := B1.out w2 C2.out
  have hb2 := blk_far (B2.out w2 C2.out) (p := ⟨w.heap.size, 2, none⟩) (by simp) (.slice A' n c')
  have hb3 := blk_set (blk_set (blk_set hb2 0 (.int .i64 f)) 1 (.int .i64 d)) 2 (.slice A' n c')
  have hcc : Chg (fun k => k = w.heap.size ∨ k = w.heap.size + 1) w2 ((((w2.setCell ⟨w.heap.size, 2, none⟩ (.slice A' n c')).setCell ⟨w.heap.size + 1, 0, none⟩ (.int .i64 f)).setCell ⟨w.heap.size + 1, 1, none⟩ (.int .i64 d)).setCell ⟨w.heap.size + 1, 2, none⟩ (.slice A' n c')) :=
    ((((Chg.refl _ w2).set (fun _ => .inl rfl) _).set (fun _ => .inr rfl) _).set (fun _ => .inr rfl) _).set (fun _ => .inr rfl) _
  clear x0 x1 x2 y0 y1 y2 fx fy0 fy1 fy2 hb1 hb2
  generalize ((((w2.setCell ⟨w.heap.size, 2, none⟩ (.slice A' n c')).setCell ⟨w.heap.size + 1, 0, none⟩ (.int .i64 f)).setCell ⟨w.heap.size + 1, 1, none⟩ (.int .i64 d)).setCell ⟨w.heap.size + 1, 2, none⟩ (.slice A' n c')) = W at hb3 hcc ⊢
  have z0 : W.cell? ⟨w.heap.size + 1, 0, none⟩ = some (.int .i64 f) := by rw [cellAt hb3]; rfl
  have z1 : W.cell? ⟨w.heap.size + 1, 1, none⟩ = some (.int .i64 d) := by rw [cellAt hb3]; rfl
  have z2 : W.cell? ⟨w.heap.size + 1, 2, none⟩ = some (.slice A' n c') := by rw [cellAt hb3]; rfl
  refine bodyPost_ret (v := .agg #[.int .i64 f, .int .i64 d, .slice A' n c']) (by simp [results, Try.results39, go_sem, z0, z1, z2]) rfl ⟨A', c', rfl, ⟨H.out.1, H.out.2.1, ?_⟩, ?_⟩
  · exact (K.out.chg hcc (fun k hk h => by omega)).mono (fun k hk => by omega)
  · exact (((Chg.refl (fun _ => False) w).alloc _).alloc _).trans C2.out (fun _ h _ => h) |>.trans hcc (fun k hk hlt => by omega)

/-- The post ps lies at block g; all that is its own lies in S. -/
structure PostAt (w : World) (S : Nat → Prop) (g : Nat) (v : Value) (ps : List Pk) : Prop where
  inS : S g
  blk : w.heap[g]? = some (.cells #[v] 72 (0, 0))
  vec : Vec pkK 38 w S (fun k => S k ∧ k ≠ g) v ps
theorem PostAt.ne {w : World} {S : Nat → Prop} {g : Nat} {v : Value} {ps : List Pk} (h : PostAt w S g v ps) : v.ownBlock ≠ some g := h.vec.ne h.blk (by decide)
theorem PostAt.cell {w : World} {S : Nat → Prop} {g : Nat} {v : Value} {ps : List Pk} (h : PostAt w S g v ps) : w.cell? ⟨g, 0, none⟩ = some v := by rw [cellAt h.blk]; rfl
theorem PostAt.free {w : World} {S : Nat → Prop} {g : Nat} {v : Value} {ps : List Pk} (h : PostAt w S g v ps) (i : Nat) : w.frozen? ⟨g, i, none⟩ = false := freeAt h.blk i
theorem PostAt.chg {w w' : World} {S M : Nat → Prop} {g : Nat} {v : Value} {ps : List Pk} (h : PostAt w S g v ps) (hc : Chg M w w') (hd : ∀ k, S k → k < w.heap.size → ¬ M k) : PostAt w' S g v ps :=
  ⟨h.inS, hc.blk h.blk (hd _ h.inS (lt_of_blk h.blk)), h.vec.chg hc (fun k hk => hd _ (h.vec.inS k hk) (h.vec.lt k hk)) (fun k hk _ hl => hd _ hk.1 hl)⟩
theorem PostAt.mono {w : World} {S S' : Nat → Prop} {g : Nat} {v : Value} {ps : List Pk} (h : PostAt w S g v ps) (hS : ∀ k, S k → k < w.heap.size → S' k) : PostAt w S' g v ps :=
  ⟨hS _ h.inS (lt_of_blk h.blk), h.blk, h.vec.mono hS (fun k hk hl => ⟨hS k hk.1 hl, hk.2⟩)⟩
def UpdP (S : Nat → Prop) (g : Nat) (ps : List Pk) (w w' : World) : Prop := ∃ v', PostAt w' (fun k => S k ∨ w.heap.size ≤ k) g v' ps ∧ Chg S w w'
theorem PostAt.same {w w' : World} {S : Nat → Prop} {g : Nat} {v : Value} {ps : List Pk} (h : PostAt w S g v ps) (hc : Chg (fun _ => False) w w') : UpdP S g ps w w' :=
  ⟨v, (h.chg hc (fun _ _ _ h => h)).mono (fun k hk _ => .inl hk), hc.mono (fun _ h _ => h.elim)⟩
/-- A new row is laid in. -/
theorem PostAt.put {w w2 : World} {S : Nat → Prop} {g : Nat} {v v' : Value} {ps ps' : List Pk} (h : PostAt w S g v ps) (hc : Chg (fun k => v.ownBlock = some k) w w2) (h1 : Vec pkK 38 w2 (fun k => S k ∨ w.heap.size ≤ k) (fun k => (S k ∨ w.heap.size ≤ k) ∧ k ≠ g) v' ps') :
    UpdP S g ps' w (w2.setCell ⟨g, 0, none⟩ v') := by
  have hb := hc.blk h.blk h.ne
  have hne := h1.ne hb (by decide)
  have hs : Chg (fun k => k = g) w2 (w2.setCell ⟨g, 0, none⟩ v') := (Chg.refl (fun k => k = g) w2).set (fun _ => rfl) _
  exact ⟨v', ⟨.inl h.inS, blk_set hb 0 v', h1.chg hs (fun k hk e => hne (by rw [← e]; exact hk)) (fun k hk _ _ e => hk.2 e)⟩, (hc.mono (fun k hk _ => h.vec.inS k hk)).trans hs (fun k hk _ => by subst hk; exact h.inS)⟩

def sendP (ps : List Pk) (x : Pk) : List Pk × Int := if 65546 < x.data.length then (ps, 12) else if ps.length = 4096 then (ps, 33) else (ps ++ [x], 0)

set_option maxHeartbeats 1000000 in
set_option maxRecDepth 100000 in
theorem send_any (S R : Nat → Prop) (g : Nat) (v : Value) (ps : List Pk) (x : Pk) (A : Option Addr) (n c : Nat) (w : World) (h : PostAt w S g v ps) (hok : ps.length ≤ 4096) (hx : PkAt w R x A n c) :
    Calls Try.prog 21 #[.pointer (some ⟨g, 0, none⟩), .agg #[.int .i64 x.src, .int .i64 x.dst, .slice A n c]] w fun e w' => e = .returned (.int .i64 (sendP ps x).2) ∧ UpdP S g (sendP ps x).1 w w' := by
  have H := hid h
  have HX := hid hx
  have HN := hid hx.2.2.1
  obtain ⟨B, d, hv⟩ := h.vec.form
  subst hv
  have c0 := h.cell
  clear h hx
  obtain ⟨f, t, l⟩ := x
  simp only at HX HN ⊢
  obtain ⟨wb, hwb⟩ : ∃ wb, wb = w.alloc (.cells #[.int .i64 f, .int .i64 t, .slice A n c] 38) := ⟨_, rfl⟩
  have CB := hid (show Chg (fun _ => False) w wb by rw [hwb]; exact (Chg.refl _ w).alloc _)
  have BB := hid (show wb.heap[w.heap.size]? = some (.cells #[.int .i64 f, .int .i64 t, .slice A n c] 38 (0, 0)) by rw [hwb]; exact blk_new w _)
  obtain ⟨M, hM⟩ : ∃ M : Nat → Prop, ∀ k, M k ↔ (Value.slice B ps.length d).ownBlock = some k := ⟨_, fun _ => Iff.rfl⟩
  have MM := hid hM
  clear hM
  have hne : ¬ M g := fun h => H.out.ne ((MM.out _).1 h)
  have hnb : ¬ M w.heap.size := fun h => by have := H.out.vec.lt _ ((MM.out _).1 h); omega
  have hc0 : ∀ wx, Chg M wb wx → wx.cell? ⟨g, 0, none⟩ = some (.slice B ps.length d) := fun wx hx => hx.cell (CB.out.cell H.out.cell (fun h => h)) hne
  have hx0 : ∀ wx, Chg M wb wx → wx.cell? ⟨w.heap.size, 0, none⟩ = some (.int .i64 f) := fun wx hx => hx.cell (by rw [cellAt BB.out]; rfl) hnb
  have hx1 : ∀ wx, Chg M wb wx → wx.cell? ⟨w.heap.size, 1, none⟩ = some (.int .i64 t) := fun wx hx => hx.cell (by rw [cellAt BB.out]; rfl) hnb
  have hx2 : ∀ wx, Chg M wb wx → wx.cell? ⟨w.heap.size, 2, none⟩ = some (.slice A n c) := fun wx hx => hx.cell (by rw [cellAt BB.out]; rfl) hnb
  have d0 := hc0 wb (Chg.refl _ _)
  have e2 := hx2 wb (Chg.refl _ _)
  have HNE := hid hne
  have hgb : g < w.heap.size := lt_of_blk H.out.blk
  have hgb2 : g ≠ w.heap.size := by omega
  clear hne hnb d0 e2
  by_cases hb : 65546 < l.length
  · have E := hid (show sendP ps ⟨f, t, l⟩ = (ps, 12) by simp [sendP, hb])
    have hb' : (65546 : Int) < (n : Int) := by have := HN.out; omega
    go_enter Try.func21, Try.ntmps21
    go_wp2_with fail
    try rw [← hwb]
    go_wp2_with fail
    go_ret
    rw [E.out]
    exact ⟨rfl, H.out.same CB.out⟩
  have hb' : ¬ (65546 : Int) < (n : Int) := by have := HN.out; omega
  by_cases hf : ps.length = 4096
  · have E := hid (show sendP ps ⟨f, t, l⟩ = (ps, 33) by simp [sendP, hb, hf])
    have hf' : ((ps.length : Int) == 4096) = true := by simp; omega
    have HF := hid hf
    clear hf hb
    go_enter Try.func21, Try.ntmps21
    go_wp2_with fail
    try rw [← hwb]
    go_wp2_with fail
    go_ret
    rw [E.out]
    exact ⟨rfl, H.out.same CB.out⟩
  have E := hid (show sendP ps ⟨f, t, l⟩ = (ps ++ [⟨f, t, l⟩], 0) by simp [sendP, hb, hf])
  have hf' : ((ps.length : Int) == 4096) = false := by simp; omega
  have hlen : ps.length < 4096 := by omega
  have HLEN := hid hlen
  have HB := hid hb
  clear hf hb hlen hok
  go_enter Try.func21, Try.ntmps21
  go_wp2_with fail
  rw [← hwb]
  clear hwb
  refine wpB_start (fun wx : World => Chg M wb wx) (by kernel_rfl) ?_
  have hHeld : (fun wx : World => Chg M wb wx) _ := (by first | assumption | exact Chg.drew (Chg.refl _ _) | (show _ ∧ _; refine ⟨?_, ?_⟩ <;> assumption) | (first | assumption | exact hHeld.alloc _ | exact hHeld.trans h2 (fun _ h _ => h.elim) | exact hHeld.trans h4 (fun k h _ => (MM.out k).2 h)))
  -- 0: t17 := move t0 : 34
  refine wpB_take (i := 0) (v := ?_) (get_of_drop rfl) (by kernel_rfl) (by kernel_rfl) (by kernel_rfl) (by kernel_rfl) (fun _ _ _ h => h) (Or.inl ⟨by rfl, ?_⟩) hHeld ?_
  rotate_left
  · (intro w hSw; (try dsimp only at hSw); go_simp <;> with_reducible rfl)
  try simp only [Act.put, List.setIfInBounds_toArray, List.set_cons_zero, List.set_cons_succ]
  -- 1: t18 := move t0 : 34
  refine wpB_take (i := 1) (v := ?_) (get_of_drop rfl) (by kernel_rfl) (by kernel_rfl) (by kernel_rfl) (by kernel_rfl) (fun _ _ _ h => h) (Or.inl ⟨by rfl, ?_⟩) hHeld ?_
  rotate_left
  · (intro w hSw; (try dsimp only at hSw); go_simp <;> with_reducible rfl)
  try simp only [Act.put, List.setIfInBounds_toArray, List.set_cons_zero, List.set_cons_succ]
  -- 2: t19 := nilCheck t18 : 0
  refine wpB_take (i := 2) (v := ?_) (get_of_drop rfl) (by kernel_rfl) (by kernel_rfl) (by kernel_rfl) (by kernel_rfl) (fun _ _ _ h => h) (Or.inl ⟨by rfl, ?_⟩) hHeld ?_
  rotate_left
  · (intro w hSw; (try dsimp only at hSw); go_simp <;> with_reducible rfl)
  try simp only [Act.put, List.setIfInBounds_toArray, List.set_cons_zero, List.set_cons_succ]
  -- 3: t20 := fieldAddr 72 t19 0 : 0
  refine wpB_take (i := 3) (v := ?_) (get_of_drop rfl) (by kernel_rfl) (by kernel_rfl) (by kernel_rfl) (by kernel_rfl) (fun _ _ _ h => h) (Or.inl ⟨by rfl, ?_⟩) hHeld ?_
  rotate_left
  · (intro w hSw; (try dsimp only at hSw); go_simp <;> with_reducible rfl)
  try simp only [Act.put, List.setIfInBounds_toArray, List.set_cons_zero, List.set_cons_succ]
  -- 4: t21 := load 57 t20 : 57
  refine wpB_take (i := 4) (v := ?_) (get_of_drop rfl) (by kernel_rfl) (by kernel_rfl) (by kernel_rfl) (by kernel_rfl) (fun _ _ _ h => h) (Or.inl ⟨by rfl, ?_⟩) hHeld ?_
  rotate_left
  · (intro w hSw; (try dsimp only at hSw); go_simp <;> with_reducible rfl)
  try simp only [Act.put, List.setIfInBounds_toArray, List.set_cons_zero, List.set_cons_succ]
  -- 5: t22 := load 38 t3 : 38
  refine wpB_take (i := 5) (v := ?_) (get_of_drop rfl) (by kernel_rfl) (by kernel_rfl) (by kernel_rfl) (by kernel_rfl) (fun _ _ _ h => h) (Or.inl ⟨by rfl, ?_⟩) hHeld ?_
  rotate_left
  · (intro w hSw; (try dsimp only at hSw); go_simp <;> with_reducible rfl)
  try simp only [Act.put, List.setIfInBounds_toArray, List.set_cons_zero, List.set_cons_succ]
  -- 6: t23 := CALL fn39(t22) : 38
  refine wpB_act (i := 6) (by kernel_rfl) (get_of_drop rfl) (fun K hK => ?_)
  go_simp
  refine (copied_any R ⟨f, t, l⟩ A n c _ (HX.out.chg (CB.out.drew) (fun _ _ h => h)) (by have := HB.out; show l.length ≤ _; omega)).mono ?_
  rintro e w2 ⟨A', c', rfl, h1, h2⟩
  refine hK.out _ _ ?_ (fun hHeld2 => ?_)
  · (first | assumption | exact hHeld.alloc _ | exact hHeld.trans h2 (fun _ h _ => h.elim) | exact hHeld.trans h4 (fun k h _ => (MM.out k).2 h))
  clear hHeld hK K
  have hHeld := hHeld2
  clear hHeld2
  try simp only [Act.put, List.setIfInBounds_toArray, List.set_cons_zero, List.set_cons_succ]
  -- 7: t24 := buildSlice 57 1 [⟨0, t23⟩] : 57
  refine wpB_act (i := 7) (by kernel_rfl) (get_of_drop rfl) (fun K hK => ?_)
  go_simp
  refine hK.out _ _ ?_ (fun hHeld2 => ?_)
  · (first | assumption | exact hHeld.alloc _ | exact hHeld.trans h2 (fun _ h _ => h.elim) | exact hHeld.trans h4 (fun k h _ => (MM.out k).2 h))
  clear hHeld hK K
  have hHeld := hHeld2
  clear hHeld2
  try simp only [Act.put, List.setIfInBounds_toArray, List.set_cons_zero, List.set_cons_succ]
  -- 8: t25 := append(t21, t24) types [57, 57] : 57
  refine wpB_act (i := 8) (by kernel_rfl) (get_of_drop rfl) (fun K hK => ?_)
  have CC := hid (((CB.out.drew.trans h2 (fun _ h _ => h)).alloc (.cells #[.int .i64 f, .int .i64 t, .slice A' n c'] 38) : Chg (fun _ => False) w _))
  refine vec_step (d := pkK) _ rfl (.tmp 21) (.tmp 24) 57 38 (.agg #[.int .i64 0, .int .i64 0, .slice none 0 0]) 40 rfl Try.underlying57 info38 rfl (by decide) (by decide) (.slice B ps.length d) rfl ((H.out.vec.chg CC.out (fun _ _ h => h) (fun _ _ _ _ h => h)).mono (S' := S) (D' := fun k => (S k ∨ w.heap.size ≤ k) ∧ k ≠ g) (fun k h _ => h) (fun k h _ => ⟨.inl h.1, h.2⟩)) (some ⟨w2.heap.size, 0, none⟩) 1 1 (ys := [⟨f, t, l⟩]) rfl (by simp) (by omega) rfl (new_sees w2 #[.int .i64 f, .int .i64 t, .slice A' n c'] 38) (Ty.Row.one_ (pk_shut ((h1.bound.chg ((Chg.refl (fun _ => False) w2).alloc (.cells #[.int .i64 f, .int .i64 t, .slice A' n c'] 38)) (fun _ _ h => h)).mono (fun k hk => ?_)))) (by have := HLEN.out; omega) ?_
  · have q1 := CB.out.size
    have q2 : wb.heap.size ≤ k := hk.1
    have q3 := lt_of_blk BB.out
    exact ⟨⟨.inr (by omega), by omega⟩, fun e => by have := H.out.vec.lt k e; omega, by have := hk.2; simp; omega⟩
  intro A3 c3 w3 h3 h4
  have f0 : w3.frozen? ⟨g, 0, none⟩ = false := freeAt (h4.blk (CC.out.blk H.out.blk (fun h => h)) H.out.ne) 0
  have q0 : w3.cell? ⟨g, 0, none⟩ = some (.slice B ps.length d) := (by rw [cellAt (h4.blk (CC.out.blk H.out.blk (fun h => h)) H.out.ne)]; rfl)
  have HP := hid (H.out.put ((CC.out.mono (fun _ h _ => h.elim)).trans h4 (fun _ h _ => h)) (h3.mono (fun k h _ => by
    rcases h with h | h
    · exact .inl h
    · exact .inr (Nat.le_trans CC.out.size h)) (fun k h _ => h)))
  refine hK.out _ _ ?_ (fun hHeld2 => ?_)
  · (first | assumption | exact hHeld.alloc _ | exact hHeld.trans h2 (fun _ h _ => h.elim) | exact hHeld.trans h4 (fun k h _ => (MM.out k).2 h))
  clear hHeld hK K
  have hHeld := hHeld2
  clear hHeld2
  try simp only [Act.put, List.setIfInBounds_toArray, List.set_cons_zero, List.set_cons_succ]
  -- 9: t26 := nilCheck t17 : 0
  refine wpB_take (i := 9) (v := ?_) (get_of_drop rfl) (by kernel_rfl) (by kernel_rfl) (by kernel_rfl) (by kernel_rfl) (fun _ _ _ h => h) (Or.inl ⟨by rfl, ?_⟩) hHeld ?_
  rotate_left
  · (intro w hSw; (try dsimp only at hSw); go_simp <;> with_reducible rfl)
  try simp only [Act.put, List.setIfInBounds_toArray, List.set_cons_zero, List.set_cons_succ]
  -- 10: t27 := fieldAddr 72 t26 0 : 0
  refine wpB_take (i := 10) (v := ?_) (get_of_drop rfl) (by kernel_rfl) (by kernel_rfl) (by kernel_rfl) (by kernel_rfl) (fun _ _ _ h => h) (Or.inl ⟨by rfl, ?_⟩) hHeld ?_
  rotate_left
  · (intro w hSw; (try dsimp only at hSw); go_simp <;> with_reducible rfl)
  try simp only [Act.put, List.setIfInBounds_toArray, List.set_cons_zero, List.set_cons_succ]
  -- 11: t- := store 57 t27 t25 : 0 (BARRIER)
  refine wpB_bar (i := 11) (by kernel_rfl) (get_of_drop rfl) (by kernel_rfl) (fun K hK => ?_)
  go_simp
  refine hK.out _ _ (fun _ : World => True) ?_
  clear hHeld hK K
  have hHeld := trivial
  try simp only [Act.put, List.setIfInBounds_toArray, List.set_cons_zero, List.set_cons_succ]
  refine wpB_done (by kernel_rfl) ?_ _
  clear h1 h2 h3 h4 hc0 hx0 hx1 hx2
  go_wp2_with fail
  go_ret
  rw [E.out]
  exact ⟨rfl, HP.out⟩

theorem len_any (S : Nat → Prop) (g : Nat) (v : Value) (ps : List Pk) (w : World) (h : PostAt w S g v ps) :
    Calls Try.prog 24 #[.pointer (some ⟨g, 0, none⟩)] w fun e w' => e = .returned (.int .i64 ps.length) ∧ w = w' := by
  obtain ⟨B, d, hv⟩ := h.vec.form
  subst hv
  have c0 := h.cell
  clear h
  go_enter Try.func24, Try.ntmps24
  go_wp2
  go_ret
  exact ⟨rfl, rfl⟩
def thereB (n : Nat) (i : Int) : Bool := decide (0 ≤ i ∧ i < n)
theorem there_any (S : Nat → Prop) (g : Nat) (v : Value) (ps : List Pk) (i : Int) (w : World) (h : PostAt w S g v ps) :
    Calls Try.prog 40 #[.pointer (some ⟨g, 0, none⟩), .int .i64 i] w fun e w' => e = .returned (.bool (thereB ps.length i)) ∧ w = w' := by
  obtain ⟨B, d, hv⟩ := h.vec.form
  subst hv
  have c0 := h.cell
  clear h
  by_cases h0 : 0 ≤ i
  · have E := hid (show thereB ps.length i = decide (i < ps.length) by simp [thereB, h0])
    go_enter Try.func40, Try.ntmps40
    go_wp2
    go_ret
    rw [E.out]
    exact ⟨rfl, rfl⟩
  · have E := hid (show thereB ps.length i = false by simp [thereB, h0])
    go_enter Try.func40, Try.ntmps40
    go_wp2
    go_ret
    rw [E.out]
    exact ⟨rfl, rfl⟩
def pickP (ps : List Pk) (i : Int) : Option Pk := if 0 ≤ i then ps[i.toNat]? else none
def copyP (ps : List Pk) (i : Int) : List Pk × Int := match pickP ps i with | some x => sendP ps x | none => (ps, 60)
theorem pickP_no {ps : List Pk} {i : Int} (h : ¬ (0 ≤ i ∧ i < ps.length)) : pickP ps i = none := by
  unfold pickP
  split
  · rw [List.getElem?_eq_none (by omega)]
  · rfl
theorem pickP_yes {ps : List Pk} {k : Nat} (h : k < ps.length) : pickP ps (k : Int) = some ps[k] := by
  unfold pickP
  rw [if_pos (by omega), Int.toNat_natCast, List.getElem?_eq_getElem h]
set_option maxHeartbeats 1000000 in
theorem copy_any (S : Nat → Prop) (g : Nat) (v : Value) (ps : List Pk) (i : Int) (w : World) (h : PostAt w S g v ps) (hok : ps.length ≤ 4096) :
    Calls Try.prog 22 #[.pointer (some ⟨g, 0, none⟩), .int .i64 i] w fun e w' => e = .returned (.int .i64 (copyP ps i).2) ∧ UpdP S g (copyP ps i).1 w w' := by
  have H := hid h
  have HOK := hid hok
  obtain ⟨B, d, hv⟩ := h.vec.form
  subst hv
  have c0 := h.cell
  clear h
  by_cases ht : 0 ≤ i ∧ i < ps.length
  · obtain ⟨k, rfl⟩ := Int.eq_ofNat_of_zero_le ht.1
    have hk : k < ps.length := by omega
    obtain ⟨g2, cs, hB, hS2, hg2, hK, hc⟩ := H.out.vec.get (by decide) (List.getElem?_eq_getElem hk)
    obtain ⟨A, n, c, rfl, hx⟩ := pk_open hK
    subst hB
    have E := hid (show copyP ps (k : Int) = sendP ps ps[k] by unfold copyP; rw [pickP_yes hk])
    generalize ps[k] = x at hx hc E
    have ht' : thereB ps.length (k : Int) = true := by simpa [thereB] using ht
    have HT := hid ht'
    have HX := hid hx
    have x0 : w.cell? ⟨g2, k * 3, none⟩ = some (.int .i64 x.src) := hc 0 _ rfl
    have x1 : w.cell? ⟨g2, k * 3 + 1, none⟩ = some (.int .i64 x.dst) := hc 1 _ rfl
    have x2 : w.cell? ⟨g2, k * 3 + 2, none⟩ = some (.slice A n c) := hc 2 _ rfl
    clear ht ht' hx hc hK
    go_enter Try.func22, Try.ntmps22
    go_wp2_with fail
    refine (there_any S g _ ps _ w H.out).mono ?_
    rintro e w2 ⟨rfl, rfl⟩
    rw [HT.out]
    go_wp2_with fail
    refine (send_any S (fun k => S k) g _ ps x A n c w H.out HOK.out (HX.out.mono (fun k hk => hk.1.1))).mono ?_
    rintro e w2 ⟨rfl, hu⟩
    have HU := hid hu
    clear hu
    go_wp2_with fail
    go_ret
    rw [E.out]
    exact ⟨rfl, HU.out⟩
  · have E := hid (show copyP ps i = (ps, 60) by unfold copyP; rw [pickP_no ht])
    have ht' : thereB ps.length i = false := by simpa [thereB] using ht
    have HT := hid ht'
    clear ht ht'
    go_enter Try.func22, Try.ntmps22
    go_wp2_with fail
    refine (there_any S g _ ps i w H.out).mono ?_
    rintro e w2 ⟨rfl, rfl⟩
    rw [HT.out]
    go_wp2_with fail
    go_ret
    rw [E.out]
    exact ⟨rfl, H.out.same (Chg.refl _ _)⟩

set_option maxHeartbeats 2000000 in
theorem all_any (S : Nat → Prop) (g : Nat) (v : Value) (ps : List Pk) (w : World) (h : PostAt w S g v ps) (hok : ps.length ≤ 4096) (hbig : ∀ x ∈ ps, x.data.length ≤ 65546) :
    Calls Try.prog 35 #[.pointer (some ⟨g, 0, none⟩)] w fun e w' => ∃ v, e = .returned v ∧ Vec pkK 38 w' (fun k => w.heap.size ≤ k) (fun k => w.heap.size ≤ k) v ps ∧ Chg (fun _ => False) w w' := by
  have H := hid h
  have HOK := hid hok
  have HBIG := hid hbig
  obtain ⟨B, d, hv⟩ := h.vec.form
  subst hv
  have c0 := h.cell
  have hl : (ps.length : Int) ≤ 4096 := by omega
  clear h hbig
  go_enter Try.func35, Try.ntmps35
  go_wp2_with fail
  go_loopw [3, 11] (fun v i wr => ∃ k : Nat, k ≤ ps.length ∧ i = .int .i64 k ∧ Vec pkK 38 wr (fun k => w.heap.size ≤ k) (fun k => w.heap.size ≤ k) v (ps.take k) ∧ Chg (fun _ => False) w wr) (fun _ i _ => ps.length - (intOf i).toNat)
  case atStart => exact ⟨0, Nat.zero_le _, rfl, Vec.nil _ _ _ _ _, Chg.refl _ _⟩
  case round =>
    obtain ⟨k, hk, rfl, hV, hC⟩ := hrel
    obtain ⟨A', c', hv'⟩ := hV.form
    have hkl : (ps.take k).length = k := by rw [List.length_take]; omega
    rw [hkl] at hv'
    subst hv'
    have HV := hid hV
    have HC := hid hC
    have HKL := hid hkl
    clear hV hC hkl
    by_cases hlt : k < ps.length
    · obtain ⟨g2, cs, hB, hS2, hg2, hK, hc⟩ := H.out.vec.get (by decide) (List.getElem?_eq_getElem hlt)
      obtain ⟨A, n, c, rfl, hx⟩ := pk_open hK
      subst hB
      have hl1 := HBIG.out _ (List.getElem_mem hlt)
      have HTK := hid (show ps.take (k + 1) = ps.take k ++ [ps[k]] from List.take_succ_eq_append_getElem hlt)
      generalize ps[k] = x at hx hc hl1 HTK
      have HX := hid (hx.chg HC.out (fun _ _ h => h))
      have x0 : wr.cell? ⟨g2, k * 3, none⟩ = some (.int .i64 x.src) := HC.out.cell (hc 0 _ rfl) (fun h => h)
      have x1 : wr.cell? ⟨g2, k * 3 + 1, none⟩ = some (.int .i64 x.dst) := HC.out.cell (hc 1 _ rfl) (fun h => h)
      have x2 : wr.cell? ⟨g2, k * 3 + 2, none⟩ = some (.slice A n c) := HC.out.cell (hc 2 _ rfl) (fun h => h)
      have HL1 := hid hl1
      clear hx hc hK hl1
      go_wp2_with fail
      refine (copied_any _ x A n c _ (HX.out.chg ((Chg.refl (fun _ => False) wr).alloc _) (fun _ _ h => h)) (by have := HL1.out; omega)).mono ?_
      rintro e w2 ⟨A2, c2, rfl, h1, h2⟩
      have H1 := hid h1
      have H2 := hid h2
      have CC := hid ((((Chg.refl (fun _ => False) wr).alloc _).trans h2 (fun _ h _ => h)).alloc (.cells #[.int .i64 x.src, .int .i64 x.dst, .slice A2 n c2] 38))
      clear h1 h2
      go_wp2_with (first | (at_builtin; refine vec_list (d := pkK) _ rfl (.tmp 15) (.tmp 18) 57 38 (.agg #[.int .i64 0, .int .i64 0, .slice none 0 0]) 40 rfl Try.underlying57 info38 rfl (by decide) (by decide) (.slice A' k c') rfl (HV.out.chg CC.out (fun _ _ h => h) (fun _ _ _ _ h => h)) (some ⟨w2.heap.size, 0, none⟩) 1 1 (ys := [x]) rfl (by simp) (by omega) rfl (new_sees w2 #[.int .i64 x.src, .int .i64 x.dst, .slice A2 n c2] 38) (Ty.Row.one_ (pk_shut ((H1.out.bound.chg ((Chg.refl (fun _ => False) w2).alloc (.cells #[.int .i64 x.src, .int .i64 x.dst, .slice A2 n c2] 38)) (fun _ _ h => h)).mono ?side))) (by rw [HKL.out]; omega) ?_; (case side => (intro k' hk'; have q1 : (wr.alloc (.cells #[.int .i64 x.src, .int .i64 x.dst, .slice A n c] 38)).heap.size ≤ k' := hk'.1; have q2 := hk'.2; have q3 := HC.out.size; simp at q1; exact ⟨by omega, fun e => (by have := HV.out.lt k' e; omega), by simp; omega⟩)); rw [HKL.out]; intro A3 c3 w3 h3 h4; have H3 := hid h3; have H4 := hid h4; clear h3 h4))
      have HN := hid (show Vec pkK 38 w3 (fun k => w.heap.size ≤ k) (fun k => w.heap.size ≤ k) (.slice A3 (k + 1) c3) (ps.take (k + 1)) by
        rw [HTK.out]
        exact H3.out.mono (fun j hj _ => by
          rcases hj with hj | hj
          · exact hj
          · exact Nat.le_trans (Nat.le_trans HC.out.size CC.out.size) hj) (fun j hj _ => hj))
      have HM := hid ((HC.out.trans CC.out (fun _ h _ => h)).trans H4.out (fun i hi hlt => by have := HV.out.inS i hi; omega))
      go_wp2_with fail
      go_roundw
      case measure => simp [intOf]; omega
      case rel => first | exact ⟨k + 1, by omega, by go_num, HN.out, HM.out⟩ | ((repeat apply Exists.intro); exact ⟨⟨k + 1, by omega, by go_num, HN.out, HM.out⟩, rfl⟩)
    · go_wp2_with fail
      go_ret
      exact ⟨_, rfl, by have := HV.out; rw [List.take_of_length_le (by omega)] at this; exact this, HC.out⟩
end Go.Proofs.Ytmllakklhbmboaa.Po
