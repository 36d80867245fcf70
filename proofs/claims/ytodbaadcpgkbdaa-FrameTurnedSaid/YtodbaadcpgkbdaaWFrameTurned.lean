/- The walk of the law FrameTurned. -/
import Derived.Test.YtodbaadcpgkbdaaFrameM
namespace Go.Proofs.Ytodbaadcpgkbdaa.Fr
set_option linter.unusedVariables false
set_option linter.unusedSimpArgs false
open Go.RowKit Go.Proofs.Ytodbaadcpgkbdaa.C
attribute [local go_sem] max2_int min2_int max_two min_two

set_option maxHeartbeats 1000000 in
set_option maxRecDepth 100000 in
theorem turned_out (w : World) (A : Option Addr) (n c : Nat) (i x : Int) (h : n < 1 ∨ 2000 < n ∨ i < 0 ∨ x < 1 ∨ 255 < x) :
    Calls Try.prog 5 #[.slice A n c, .int .i64 i, .int .i64 x] w fun e w' => e = .returned (.bool true) ∧ Below w.heap.size w w' := by
  by_cases h1 : (n : Int) < 1
  · clear h
    go_enter Try.func5, Try.ntmps5
    go_wp2_with fail
    refine (anchor_any w).mono ?_
    rintro e w1 ⟨rfl, hb1⟩
    go_wp2_with fail
    go_ret
    exact ⟨rfl, hb1⟩
  by_cases h2 : (2000 : Int) < (n : Int)
  · clear h
    go_enter Try.func5, Try.ntmps5
    go_wp2_with fail
    refine (anchor_any w).mono ?_
    rintro e w1 ⟨rfl, hb1⟩
    go_wp2_with fail
    go_ret
    exact ⟨rfl, hb1⟩
  by_cases h3 : i < 0
  · clear h
    go_enter Try.func5, Try.ntmps5
    go_wp2_with fail
    refine (anchor_any w).mono ?_
    rintro e w1 ⟨rfl, hb1⟩
    go_wp2_with fail
    go_ret
    exact ⟨rfl, hb1⟩
  by_cases h4 : x < 1
  · clear h
    go_enter Try.func5, Try.ntmps5
    go_wp2_with fail
    refine (anchor_any w).mono ?_
    rintro e w1 ⟨rfl, hb1⟩
    go_wp2_with fail
    go_ret
    exact ⟨rfl, hb1⟩
  have h5 : 255 < x := by omega
  clear h
  go_enter Try.func5, Try.ntmps5
  go_wp2_with fail
  refine (anchor_any w).mono ?_
  rintro e w1 ⟨rfl, hb1⟩
  go_wp2_with fail
  go_ret
  exact ⟨rfl, hb1⟩

set_option maxHeartbeats 4000000 in
set_option maxRecDepth 100000 in
theorem turned_in (w : World) (A : Option Addr) (n c : Nat) (b : List UInt8) (i x : Int) (h : Ty.At Ty.u8 w (fun k => k < w.heap.size) A n c b) (h1 : 1 ≤ n) (h2 : n ≤ 2000) (h3 : 0 ≤ i) (hi : i ≤ 9223372036854775807) (h4 : 1 ≤ x) (h5 : x ≤ 255) :
    Calls Try.prog 5 #[.slice A n c, .int .i64 i, .int .i64 x] w fun e w' => e = .returned (.bool true) ∧ Below w.heap.size w w' := by
  have H := hid h
  have HN := hid h.1
  have g1 : ¬ (n : Int) < 1 := by omega
  have g2 : ¬ (2000 : Int) < (n : Int) := by omega
  have g3 : ¬ i < 0 := by omega
  have g4 : ¬ x < 1 := by omega
  have g5 : ¬ 255 < x := by omega
  obtain ⟨p, hp⟩ : ∃ p : Nat, i % (10 + (n : Int) - 6) = (p : Int) := ⟨(i % (10 + (n : Int) - 6)).toNat, by have := Int.emod_nonneg i (show (10 + (n : Int) - 6) ≠ 0 by omega); omega⟩
  have hpl : p < 4 + n := by have := Int.emod_lt_of_pos i (show 0 < 10 + (n : Int) - 6 by omega); omega
  obtain ⟨q, hq⟩ : ∃ q : Nat, q = 6 + p := ⟨_, rfl⟩
  have hwr : IntKind.i64.wrap (6 + (p : Int)) = (q : Int) := by rw [IntWalk.i64_in _ (by omega)]; omega
  have hql : (q : Int) < 10 + (n : Int) := by omega
  obtain ⟨y, hy⟩ : ∃ y : UInt8, x = (y.toNat : Int) := ⟨UInt8.ofNat x.toNat, by simp; omega⟩
  have hy0 : y ≠ 0 := by intro h0; rw [h0] at hy; simp at hy; omega
  have hfl : (FrameP.frame b).length = 10 + n := by rw [FrameP.frame_length, h.1]
  obtain ⟨z, hz⟩ : ∃ z, (FrameP.frame b)[q]? = some z := ⟨_, List.getElem?_eq_getElem (by omega)⟩
  have hzy : z ≠ z ^^^ y := by
    intro h0
    apply hy0
    have h1 : z ^^^ z = z ^^^ (z ^^^ y) := congrArg (z ^^^ ·) h0
    rw [← UInt8.xor_assoc, UInt8.xor_self, UInt8.zero_xor] at h1
    exact h1.symm
  have RD := hid (show FrameP.read ((FrameP.frame b).set q (z ^^^ y)) = (15, []) by rw [hq]; exact FrameP.read_turned b p z (z ^^^ y) (by rw [← h.1]; omega) (by rw [← hq]; exact hz) hzy)
  have HFL := hid hfl
  have HZ := hid hz
  have hxor := xor8 z y
  subst hy
  go_enter Try.func5, Try.ntmps5
  clear h hfl hz hzy hy0 hq hpl
  go_wp2_with fail
  refine (anchor_any w).mono ?_
  rintro e w1 ⟨rfl, hb1⟩
  have HB1 := hid hb1
  clear hb1
  go_wp2_with fail
  refine (make_any A n c b (fun k => k < w.heap.size) w1 (H.out.new (Chg.of_below HB1.out)) (by omega)).mono ?_
  rintro e w2 ⟨A2, c2, rfl, h2⟩
  have M2 := hid h2
  have O2 := hid (show w2.ownsRow 0 5 1 (.slice A2 (10 + n) c2) (10 + n) (u8s (FrameP.frame b)) by have := h2.1; rwa [HFL.out] at this)
  clear h2
  obtain ⟨g, hA2, hgl⟩ := own_form O2.out (by omega)
  subst hA2
  obtain ⟨hc, hf⟩ := own_u8 O2.out HZ.out
  have hf' : w2.frozen? ⟨g, q, none⟩ = false := hf
  go_wp2_with fail
  have O3 := hid (own_u8_set O2.out q (z ^^^ y))
  have C3 := hid (show Chg (fun k => k = g) w2 (w2.setCell ⟨g, q, none⟩ (.int .u8 ((z ^^^ y).toNat : Int))) from (Chg.refl (fun k => k = g) w2).set (p := ⟨g, q, none⟩) (fun _ => rfl) _)
  refine (read_any _ (10 + n) c2 _ _ _ (own_At O3.out rfl)).mono ?_
  rintro e w4 ⟨A4, c4, he, h4, h5, h6⟩
  have sz : sizeOf ((FrameP.frame b).set q (z ^^^ y)) = 0 := by unfold sizeOf; rw [RD.out]; rfl
  rw [RD.out, sz] at he
  subst he
  have C4 := hid h5
  have hg : w.heap.size ≤ g := Nat.le_trans HB1.out.size (M2.out.2.2 g rfl)
  have HG := hid hg
  clear h4 h5 h6 sz hg
  go_wp2_with fail
  go_ret
  exact ⟨rfl, HB1.out.trans ((M2.out.2.1.below HB1.out.size (fun _ h => h.elim)).trans ((C3.out.below (Nat.le_trans HB1.out.size M2.out.2.1.size) (fun k hk => by rw [hk]; exact HG.out)).trans (C4.out.below (by rw [← Nat.le_antisymm C3.out.size (by simp [World.setCell])]; exact Nat.le_trans HB1.out.size M2.out.2.1.size) (fun _ h => h.elim))))⟩

theorem FrameTurned_walk (w : World) (A : Option Addr) (n c : Nat) (b : List UInt8) (h : Ty.At Ty.u8 w (fun k => k < w.heap.size) A n c b) (i : Int) (hi : (Lit.int .i64 i).wf = true) (x : Int) (hx : (Lit.int .i64 x).wf = true) :
    Calls Try.prog 5 #[.slice A n c, .int .i64 i, .int .i64 x] w fun e w' => e = .returned (.bool true) ∧ Below w.heap.size w w' := by
  by_cases hd : n < 1 ∨ 2000 < n ∨ i < 0 ∨ x < 1 ∨ 255 < x
  · exact turned_out w A n c i x hd
  · exact turned_in w A n c b i x h (by omega) (by omega) (by omega) (wf64 hi).2 (by omega) (by omega)

end Go.Proofs.Ytodbaadcpgkbdaa.Fr
