/- Contracts of package frame, and of its reference. -/
import Derived.Test.YtodbaadcpgkbdaaTy
import Derived.Test.YtodbaadcpgkbdaaFrameP
namespace Go.Proofs.Ytodbaadcpgkbdaa.Fr
set_option linter.unusedVariables false
set_option linter.unusedSimpArgs false
open Go.RowKit Go.Proofs.Ytodbaadcpgkbdaa.C
attribute [local go_sem] max2_int min2_int max_two min_two

theorem info5 : (Try.prog.info? 5).map (fun i => (i.zero, i.size, i.bytes)) = some (some (.int .u8 0), 1, 1) := by kernel_rfl

theorem take_snoc {l : List UInt8} {k : Nat} {y : UInt8} (h : l[k]? = some y) : l.take (k + 1) = l.take k ++ [y] := by
  have hl : k < l.length := by
    rcases Nat.lt_or_ge k l.length with h' | h'
    · exact h'
    · rw [List.getElem?_eq_none h'] at h; cases h
  rw [List.getElem?_eq_getElem hl] at h
  injection h with h
  rw [List.take_succ_eq_append_getElem hl, h]

theorem step_x (s : Nat × Nat) (c : UInt8) : (((s.1 : Int) + (c.toNat : Int)) % 65521) = ((FrameP.step s c).1 : Int) := by simp [FrameP.step]
theorem step_y (s : Nat × Nat) (c : UInt8) : (((s.2 : Int) + ((s.1 : Int) + (c.toNat : Int)) % 65521) % 65521) = ((FrameP.step s c).2 : Int) := by simp [FrameP.step]

set_option maxHeartbeats 1000000 in
theorem sum_any (A : Option Addr) (n c : Nat) (l : List UInt8) (S : Nat → Prop) (w : World) (h : Ty.At Ty.u8 w S A n c l) :
    Calls Try.prog 12 #[.slice A n c] w fun e w' => e = .returned (.int .i64 (FrameP.sum l : Int)) ∧ w = w' := by
  have H := hid h
  have hn := h.1
  have hm : n ≤ 9223372036854775807 := by have := h.2.1; have := h.2.2.1; simp [maxLen] at this; omega
  have HN := hid hn
  clear h hn
  go_enter Try.func12, Try.ntmps12
  go_wp2
  go_loop [3, 4, 9] (fun x y i => ∃ k : Nat, k ≤ n ∧ i = .int .i64 k ∧ x = .int .i64 ((FrameP.sums (l.take k)).1 : Int) ∧ y = .int .i64 ((FrameP.sums (l.take k)).2 : Int)) (fun _ _ i => n - (intOf i).toNat)
  case atStart => exact ⟨0, Nat.zero_le _, rfl, rfl, rfl⟩
  case round =>
    obtain ⟨k, hk, rfl, rfl, rfl⟩ := hrel
    have hb := FrameP.sums_lt (l.take k)
    obtain ⟨s, hs⟩ : ∃ s, s = FrameP.sums (l.take k) := ⟨_, rfl⟩
    rw [← hs] at hb ⊢
    have hb1 := hb.1
    have hb2 := hb.2
    have HS := hid hs
    clear hb hs
    by_cases hlt : k < n
    · obtain ⟨y, hy⟩ : ∃ y, l[k]? = some y := ⟨_, List.getElem?_eq_getElem (by have := HN.out; omega)⟩
      obtain ⟨a, ha, _, hc⟩ := Ty.byteAt H.out hy
      subst ha
      have hyl := y.toNat_lt
      have HY := hid (take_snoc hy)
      clear hy
      go_wp2
      go_round
      case measure => simp [intOf]; omega
      case rel =>
        refine ⟨k + 1, by omega, by go_num, ?_, ?_⟩
        · rw [HY.out, FrameP.sums_snoc, ← HS.out, ← step_x]
        · rw [HY.out, FrameP.sums_snoc, ← HS.out, ← step_y]
    · have hkn : k = n := by omega
      have hl : l.take k = l := List.take_of_length_le (by have := HN.out; omega)
      have hj : bits BinOp.or IntKind.i64 ((s.2 : Int) * 65536) (s.1 : Int) = (FrameP.sum l : Int) := by
        have := join64 16 (s.2 * 65536) s.1 (by omega) (by omega) (by omega) (by omega)
        rw [← hl, FrameP.sum, ← HS.out, ← this]
        simp
      have HJ := hid hj
      clear hkn hl hj
      go_wp2
      go_ret
      exact ⟨by rw [← HJ.out]; rfl, rfl⟩

set_option maxHeartbeats 1000000 in
theorem refsum_any (A : Option Addr) (n c : Nat) (l : List UInt8) (S : Nat → Prop) (w : World) (h : Ty.At Ty.u8 w S A n c l) :
    Calls Try.prog 13 #[.slice A n c] w fun e w' => e = .returned (.int .i64 (FrameP.sum l : Int)) ∧ w = w' := by
  have H := hid h
  have hn := h.1
  have hm : n ≤ 9223372036854775807 := by have := h.2.1; have := h.2.2.1; simp [maxLen] at this; omega
  have HN := hid hn
  clear h hn
  go_enter Try.func13, Try.ntmps13
  go_wp2
  go_loop [3, 4, 5] (fun x y i => ∃ k : Nat, k ≤ n ∧ i = .int .i64 k ∧ x = .int .i64 ((FrameP.sums (l.take k)).1 : Int) ∧ y = .int .i64 ((FrameP.sums (l.take k)).2 : Int)) (fun _ _ i => n - (intOf i).toNat)
  case atStart => exact ⟨0, Nat.zero_le _, rfl, rfl, rfl⟩
  case round =>
    obtain ⟨k, hk, rfl, rfl, rfl⟩ := hrel
    have hb := FrameP.sums_lt (l.take k)
    obtain ⟨s, hs⟩ : ∃ s, s = FrameP.sums (l.take k) := ⟨_, rfl⟩
    rw [← hs] at hb ⊢
    have hb1 := hb.1
    have hb2 := hb.2
    have HS := hid hs
    clear hb hs
    by_cases hlt : k < n
    · obtain ⟨y, hy⟩ : ∃ y, l[k]? = some y := ⟨_, List.getElem?_eq_getElem (by have := HN.out; omega)⟩
      obtain ⟨a, ha, _, hc⟩ := Ty.byteAt H.out hy
      subst ha
      have hyl := y.toNat_lt
      have HY := hid (take_snoc hy)
      clear hy
      go_wp2
      go_round
      case measure => simp [intOf]; omega
      case rel =>
        refine ⟨k + 1, by omega, by go_num, ?_, ?_⟩
        · rw [HY.out, FrameP.sums_snoc, ← HS.out, ← step_x]
        · rw [HY.out, FrameP.sums_snoc, ← HS.out, ← step_y]
    · have hkn : k = n := by omega
      have hl : l.take k = l := List.take_of_length_le (by have := HN.out; omega)
      have hj : (s.2 : Int) * 65536 + (s.1 : Int) = (FrameP.sum l : Int) := by
        rw [← hl, FrameP.sum, ← HS.out]
        simp
      have HJ := hid hj
      clear hkn hl hj
      go_wp2
      go_ret
      exact ⟨by rw [← HJ.out]; rfl, rfl⟩

theorem byte_int (n : Nat) : ((FrameP.byte n).toNat : Int) = (n : Int) % 256 := by rw [FrameP.byte_toNat]; omega
theorem num4_cells (n : Nat) : u8s (FrameP.num4 n) = [.int .u8 ((n : Int) / 16777216 % 256), .int .u8 ((n : Int) / 65536 % 256), .int .u8 ((n : Int) / 256 % 256), .int .u8 ((n : Int) % 256)] := by
  simp only [u8s, FrameP.num4, List.map_cons, List.map_nil, byte_int]
  simp
/-- A row of one's own in a value written out. -/
def Made (w w' : World) (v : Value) (l : List UInt8) : Prop := w'.ownsRow 0 5 1 v l.length (u8s l) ∧ Chg (fun _ => False) w w' ∧ ∀ k, v.ownBlock = some k → w.heap.size ≤ k
theorem lit_own (w : World) (l : List UInt8) (hl : l.length ≤ 9223372036854775807) : (w.alloc (.cells (u8s l).toArray 5)).ownsRow 0 5 1 (.slice (some ⟨w.heap.size, 0, none⟩) l.length l.length) l.length (u8s l) := by
  have := World.ownsRow_lit (base := 0) (e := 5) (size := 1) w (u8s l).toArray l.length (Nat.zero_le _) (by simp [maxLen]; omega) (by simp)
  simpa using this
theorem lit_sees (w : World) (l : List UInt8) : Sees (w.alloc (.cells (u8s l).toArray 5)) (fun k => k = w.heap.size) (some ⟨w.heap.size, 0, none⟩) (u8s l) := by
  refine .inr ⟨_, rfl, rfl, fun j u hj => ?_⟩
  rw [add_at, Nat.zero_add, cellAt (blk_new w _)]
  simpa using hj
/-- What four does: the row is longer by four bytes. -/
def Longer (w w' : World) (v v' : Value) (l : List UInt8) : Prop := w'.ownsRow 0 5 1 v' l.length (u8s l) ∧ Chg (fun k => v.ownBlock = some k) w w' ∧ ∀ k, v'.ownBlock = some k → v.ownBlock = some k ∨ w.heap.size ≤ k

set_option maxHeartbeats 1000000 in
theorem four_any (A : Option Addr) (n c : Nat) (l : List UInt8) (m : Nat) (w : World) (h : w.ownsRow 0 5 1 (.slice A n c) n (u8s l)) (hl : n ≤ 1048576) (hm : m < 4294967296) :
    Calls Try.prog 18 #[.slice A n c, .int .i64 (m : Int)] w fun e w' => ∃ A' c', e = .returned (.slice A' (n + 4) c') ∧ Longer w w' (.slice A n c) (.slice A' (n + 4) c') (l ++ FrameP.num4 m) := by
  have H := hid h
  have hn : l.length = n := by have := h.1; simpa using this
  have HN := hid hn
  have HC := hid (num4_cells m)
  have HM := hid hm
  clear hm
  have hw : (w.alloc (.cells #[.int .u8 ((m : Int) / 16777216 % 256), .int .u8 ((m : Int) / 65536 % 256), .int .u8 ((m : Int) / 256 % 256), .int .u8 ((m : Int) % 256)] 5)) = (w.alloc (.cells (u8s (FrameP.num4 m)).toArray 5)) := by rw [num4_cells]
  have HW := hid hw
  clear h hn hw
  go_enter Try.func18, Try.ntmps18
  go_wp2_with (first | (at_builtin; refine app_list _ rfl (.tmp 5) (.tmp 17) 22 5 (.int .u8 0) 1 1 rfl Try.underlying22 info5 rfl (by decide) (by decide) (.slice A n c) n (u8s l) rfl (((Chg.refl (fun _ => False) w).alloc _).own H.out (fun _ _ h => h)) (some ⟨w.heap.size, 0, none⟩) 4 4 (u8s (FrameP.num4 m)) (fun k => k = w.heap.size) rfl (by simp) (Nat.le_refl _) (by rw [u8s_length]; rfl) (by have := lit_sees w (FrameP.num4 m); rw [← HW.out] at this; exact this) (u8s_one _) (by omega) ?_; intro A' c' w' h1 h2 h3; have G1 := hid h1; have G2 := hid h2; have G3 := hid h3; clear h1 h2 h3))
  go_ret
  refine ⟨A', c', rfl, ?_, ?_, ?_⟩
  · have := G1.out
    rw [← u8s_append] at this
    have e : (l ++ FrameP.num4 m).length = n + 4 := by rw [List.length_append, HN.out]; rfl
    rw [e]
    exact this
  · exact ((Chg.refl (fun k => (Value.slice A n c).ownBlock = some k) w).alloc _).trans G2.out (fun _ h _ => h)
  · intro k hk
    rcases G3.out k hk with h | h
    · exact .inl h
    · simp at h; exact .inr (by omega)

set_option maxHeartbeats 1000000 in
theorem number_any (m : Nat) (w : World) (hm : m < 4294967296) :
    Calls Try.prog 21 #[.int .i64 (m : Int)] w fun e w' => e = .returned (.slice (some ⟨w.heap.size, 0, none⟩) 4 4) ∧ w' = w.alloc (.cells (u8s (FrameP.num4 m)).toArray 5) := by
  have HW := hid (show w.alloc (.cells #[.int .u8 ((m : Int) / 16777216 % 256), .int .u8 ((m : Int) / 65536 % 256), .int .u8 ((m : Int) / 256 % 256), .int .u8 ((m : Int) % 256)] 5) = w.alloc (.cells (u8s (FrameP.num4 m)).toArray 5) by rw [num4_cells])
  have HM := hid hm
  have hb : (m : Int) ≤ 9223372036854775807 := by omega
  clear hm
  go_enter Try.func21, Try.ntmps21
  go_wp2
  go_ret
  exact ⟨rfl, by rw [← HW.out]⟩

/-- The first four of at least four bytes. -/
theorem four_cells {A : Option Addr} {n c : Nat} {l : List UInt8} {S : Nat → Prop} {w : World} (h : Ty.At Ty.u8 w S A n c l) (hn : 4 ≤ n) : ∃ a b0 b1 b2 b3, A = some a ∧ FrameP.four l = ((b0 * 256 + b1) * 256 + b2) * 256 + b3 ∧ b0 < 256 ∧ b1 < 256 ∧ b2 < 256 ∧ b3 < 256 ∧
    w.cell? a = some (.int .u8 (b0 : Int)) ∧ w.cell? ⟨a.block, a.off + 1, none⟩ = some (.int .u8 (b1 : Int)) ∧ w.cell? ⟨a.block, a.off + 2, none⟩ = some (.int .u8 (b2 : Int)) ∧ w.cell? ⟨a.block, a.off + 3, none⟩ = some (.int .u8 (b3 : Int)) := by
  have hl := h.1
  have hg : ∀ i, i < 4 → l[i]? = some (l.getD i 0) := fun i hi => by
    rw [List.getD_eq_getElem?_getD, List.getElem?_eq_getElem (by omega)]; rfl
  obtain ⟨a, ha, _, h0⟩ := Ty.byteAt h (hg 0 (by omega))
  obtain ⟨a1, ha1, _, h1⟩ := Ty.byteAt h (hg 1 (by omega))
  obtain ⟨a2, ha2, _, h2⟩ := Ty.byteAt h (hg 2 (by omega))
  obtain ⟨a3, ha3, _, h3⟩ := Ty.byteAt h (hg 3 (by omega))
  subst ha
  injection ha1 with e1
  injection ha2 with e2
  injection ha3 with e3
  subst e1 e2 e3
  refine ⟨a, _, _, _, _, rfl, rfl, UInt8.toNat_lt _, UInt8.toNat_lt _, UInt8.toNat_lt _, UInt8.toNat_lt _, ?_, ?_, ?_, ?_⟩
  · simpa [Addr.add] using h0
  · simpa [Addr.add] using h1
  · simpa [Addr.add] using h2
  · simpa [Addr.add] using h3
theorem four_bits {b0 b1 b2 b3 : Nat} (h0 : b0 < 256) (h1 : b1 < 256) (h2 : b2 < 256) (h3 : b3 < 256) :
    bits BinOp.or IntKind.i64 (bits BinOp.or IntKind.i64 (bits BinOp.or IntKind.i64 ((b0 : Int) * 16777216) ((b1 : Int) * 65536)) ((b2 : Int) * 256)) (b3 : Int) = (((((b0 * 256 + b1) * 256 + b2) * 256 + b3 : Nat)) : Int) := by
  have e1 := join64 24 (b0 * 16777216) (b1 * 65536) (by omega) (by omega) (by omega) (by omega)
  have e2 := join64 16 (b0 * 16777216 + b1 * 65536) (b2 * 256) (by omega) (by omega) (by omega) (by omega)
  have e3 := join64 8 (b0 * 16777216 + b1 * 65536 + b2 * 256) b3 (by omega) (by omega) (by omega) (by omega)
  have c0 : ((b0 : Int) * 16777216) = ((b0 * 16777216 : Nat) : Int) := by omega
  have c1 : ((b1 : Int) * 65536) = ((b1 * 65536 : Nat) : Int) := by omega
  have c2 : ((b2 : Int) * 256) = ((b2 * 256 : Nat) : Int) := by omega
  rw [c0, c1, c2, e1, e2, e3]
  omega

set_option maxHeartbeats 1000000 in
theorem read4_any (A : Option Addr) (n c : Nat) (l : List UInt8) (S : Nat → Prop) (w : World) (h : Ty.At Ty.u8 w S A n c l) (hn : 4 ≤ n) :
    Calls Try.prog 19 #[.slice A n c] w fun e w' => e = .returned (.int .i64 (FrameP.four l : Int)) ∧ ∃ m, w' = w.drewN m := by
  obtain ⟨a, b0, b1, b2, b3, ha, hf, h0, h1, h2, h3, c0, c1, c2, c3⟩ := four_cells h hn
  subst ha
  have HF := hid hf
  have HB := hid (four_bits h0 h1 h2 h3)
  have i0 : (0 : Int) < (n : Int) := by omega
  have i1 : (1 : Int) < (n : Int) := by omega
  have i2 : (2 : Int) < (n : Int) := by omega
  have i3 : (3 : Int) < (n : Int) := by omega
  have j0 : 0 < n := by omega
  have j1 : 1 < n := by omega
  have j2 : 2 < n := by omega
  have j3 : 3 < n := by omega
  have w0 : IntKind.i64.wrap ((b0 : Int) * 16777216) = (b0 : Int) * 16777216 := IntWalk.i64_in _ (by omega)
  have w1 : IntKind.i64.wrap ((b1 : Int) * 65536) = (b1 : Int) * 65536 := IntWalk.i64_in _ (by omega)
  have w2 : IntKind.i64.wrap ((b2 : Int) * 256) = (b2 : Int) * 256 := IntWalk.i64_in _ (by omega)
  clear hf h hn
  go_enter Try.func19, Try.ntmps19
  go_wp2
  go_quiet (fail)
  go_wp2
  go_ret
  refine ⟨?_, _, rfl⟩
  rw [HF.out, ← HB.out]
  rfl

set_option maxHeartbeats 1000000 in
theorem reffour_any (A : Option Addr) (n c : Nat) (l : List UInt8) (S : Nat → Prop) (w : World) (h : Ty.At Ty.u8 w S A n c l) (hn : 4 ≤ n) :
    Calls Try.prog 22 #[.slice A n c] w fun e w' => e = .returned (.int .i64 (FrameP.four l : Int)) ∧ ∃ m, w' = w.drewN m := by
  obtain ⟨a, b0, b1, b2, b3, ha, hf, h0, h1, h2, h3, c0, c1, c2, c3⟩ := four_cells h hn
  subst ha
  have HF := hid hf
  have i0 : (0 : Int) < (n : Int) := by omega
  have i1 : (1 : Int) < (n : Int) := by omega
  have i2 : (2 : Int) < (n : Int) := by omega
  have i3 : (3 : Int) < (n : Int) := by omega
  have j0 : 0 < n := by omega
  have j1 : 1 < n := by omega
  have j2 : 2 < n := by omega
  have j3 : 3 < n := by omega
  obtain ⟨y1, hy1⟩ : ∃ y1 : Nat, y1 = b0 * 256 + b1 := ⟨_, rfl⟩
  obtain ⟨y2, hy2⟩ : ∃ y2 : Nat, y2 = y1 * 256 + b2 := ⟨_, rfl⟩
  obtain ⟨y3, hy3⟩ : ∃ y3 : Nat, y3 = y2 * 256 + b3 := ⟨_, rfl⟩
  have w0 : IntKind.i64.wrap ((b0 : Int) * 256) = (b0 : Int) * 256 := IntWalk.i64_in _ (by omega)
  have w1 : IntKind.i64.wrap ((b0 : Int) * 256 + (b1 : Int)) = (y1 : Int) := by rw [IntWalk.i64_in _ (by omega)]; omega
  have w2 : IntKind.i64.wrap ((y1 : Int) * 256) = (y1 : Int) * 256 := IntWalk.i64_in _ (by omega)
  have w3 : IntKind.i64.wrap ((y1 : Int) * 256 + (b2 : Int)) = (y2 : Int) := by rw [IntWalk.i64_in _ (by omega)]; omega
  have w4 : IntKind.i64.wrap ((y2 : Int) * 256) = (y2 : Int) * 256 := IntWalk.i64_in _ (by omega)
  have w5 : IntKind.i64.wrap ((y2 : Int) * 256 + (b3 : Int)) = (y3 : Int) := by rw [IntWalk.i64_in _ (by omega)]; omega
  have HY := hid (show FrameP.four l = y3 by rw [hf, hy3, hy2, hy1])
  clear hf h hn hy1 hy2 hy3
  go_enter Try.func22, Try.ntmps22
  go_wp2
  go_quiet (fail)
  go_wp2
  go_ret
  refine ⟨?_, _, rfl⟩
  rw [HY.out]
  rfl

theorem own_of_longer {w w' : World} {v v' : Value} {l : List UInt8} (h : Longer w w' v v' l) : w'.ownsRow 0 5 1 v' l.length (u8s l) := h.1

set_option maxHeartbeats 1000000 in
theorem make_any (A : Option Addr) (n c : Nat) (l : List UInt8) (S : Nat → Prop) (w : World) (h : Ty.At Ty.u8 w S A n c l) (hn : n ≤ 65536) :
    Calls Try.prog 10 #[.slice A n c] w fun e w' => ∃ A' c', e = .returned (.tuple #[.slice A' (10 + n) c', .int .i64 0]) ∧ Made w w' (.slice A' (10 + n) c') (FrameP.frame l) := by
  have H := hid h
  have hl := h.1
  have HL := hid hl
  have hc1 := h.2.1
  have hc2 := h.2.2.2.1
  have HC := hid hc2
  have hg : ¬ (65536 : Int) < (n : Int) := by omega
  clear h hl hc2
  go_enter Try.func10, Try.ntmps10
  go_wp2_with fail
  refine (four_any _ 2 2 [67, 70] n _ (lit_own w [67, 70] (by simp)) (by omega) (by omega)).mono ?_
  rintro e w1 ⟨A1, c1, rfl, h1⟩
  have H1 := hid h1
  clear h1
  go_wp2_with fail
  refine (sum_any A n c l S w1 (H.out.chg (((Chg.refl (fun _ => False) w).alloc _).trans (H1.out.2.1.mono (S' := fun k => w.heap.size ≤ k) (fun k hk _ => by simp [Value.ownBlock] at hk; omega)) (fun k hk hlt => by omega)) (fun _ _ h => h))).mono ?_
  rintro e w2 ⟨rfl, rfl⟩
  go_wp2_with fail
  refine (four_any A1 6 c1 _ (FrameP.sum l) _ H1.out.1 (by omega) (FrameP.sum_lt l)).mono ?_
  rintro e w3 ⟨A3, c3, rfl, h3⟩
  have H3 := hid h3
  clear h3
  have hfr : ∀ k, (Value.slice A1 6 c1).ownBlock = some k → w.heap.size ≤ k := fun k hk => by
    rcases H1.out.2.2 k hk with h | h
    · simp [Value.ownBlock] at h; omega
    · simp at h; omega
  have hC3 : Chg (fun _ => False) w w3 := (((Chg.refl (fun _ => False) w).alloc _).trans (H1.out.2.1.mono (S' := fun k => w.heap.size ≤ k) (fun k hk _ => by simp [Value.ownBlock] at hk; omega)) (fun k hk hlt => by omega)).trans (H3.out.2.1.mono (S' := fun k => w.heap.size ≤ k) (fun k hk _ => hfr k hk)) (fun k hk hlt => by omega)
  have hA : Ty.At Ty.u8 w3 S A n c l := H.out.new (hC3.mono (fun _ h _ => h.elim))
  have HFR := hid hfr
  have HC3 := hid hC3
  clear hfr hC3
  have HA := hid hA
  clear hA
  go_wp2_with (first | (at_builtin; refine app_list _ rfl (.tmp 15) (.tmp 16) 22 5 (.int .u8 0) 1 1 rfl Try.underlying22 info5 rfl (by decide) (by decide) (.slice A3 10 c3) 10 _ rfl H3.out.1 A n c (u8s l) S rfl HC.out hc1 (by rw [u8s_length, HL.out]; omega) HA.out.bytes (u8s_one _) (by omega) ?_; intro A' c' w' h1 h2 h3; have G1 := hid h1; have G2 := hid h2; have G3 := hid h3; clear h1 h2 h3))
  go_ret2
  have hfr3 : ∀ k, (Value.slice A3 10 c3).ownBlock = some k → w.heap.size ≤ k := fun k hk => by
    rcases H3.out.2.2 k hk with h | h
    · exact HFR.out k h
    · have := HC3.out.size; have := H1.out.2.1.size; simp at this; omega
  refine ⟨A', c', rfl, ?_, HC3.out.trans (G2.out.mono (S' := fun k => w.heap.size ≤ k) (fun k hk _ => hfr3 k hk)) (fun k hk hlt => by omega), fun k hk => ?_⟩
  · have g1 := G1.out
    have e : (FrameP.frame l).length = 10 + n := by rw [FrameP.frame_length, HL.out]
    have e2 : u8s (FrameP.frame l) = u8s ([67, 70] ++ FrameP.num4 n ++ FrameP.num4 (FrameP.sum l)) ++ u8s l := by rw [← u8s_append, FrameP.frame, HL.out]
    rw [e, e2]
    exact g1
  · rcases G3.out k hk with h | h
    · exact hfr3 k h
    · have := HC3.out.size; omega

set_option maxHeartbeats 1000000 in
theorem make_no (A : Option Addr) (n c : Nat) (w : World) (hn : 65536 < n) :
    Calls Try.prog 10 #[.slice A n c] w fun e w' => e = .returned (.tuple #[.slice none 0 0, .int .i64 12]) ∧ w = w' := by
  go_enter Try.func10, Try.ntmps10
  go_wp2
  go_ret2
  exact ⟨rfl, rfl⟩

end Go.Proofs.Ytodbaadcpgkbdaa.Fr
