/- The walk of the law FrameReads. -/
import Derived.Test.YtodbaadcpgkbdaaFrameR
namespace Go.Proofs.Ytodbaadcpgkbdaa.Fr
set_option linter.unusedVariables false
set_option linter.unusedSimpArgs false
open Go.RowKit Go.Proofs.Ytodbaadcpgkbdaa.C
attribute [local go_sem] max2_int min2_int max_two min_two

set_option maxHeartbeats 2000000 in
set_option maxRecDepth 100000 in
theorem reads_in (w : World) (A : Option Addr) (n c : Nat) (b : List UInt8) (h : Ty.At Ty.u8 w (fun k => k < w.heap.size) A n c b) (hn : n ≤ 3000) :
    Calls Try.prog 4 #[.slice A n c] w fun e w' => e = .returned (.bool true) ∧ Below w.heap.size w w' := by
  have H := hid h
  have g : ¬ (3000 : Int) < (n : Int) := by omega
  obtain ⟨r, hr⟩ : ∃ r, r = FrameP.read b := ⟨_, rfl⟩
  obtain ⟨x, l⟩ := r
  clear h
  go_enter Try.func4, Try.ntmps4
  go_wp2_with fail
  refine (anchor_any w).mono ?_
  rintro e w1 ⟨rfl, hb1⟩
  have HB1 := hid hb1
  clear hb1
  go_wp2_with fail
  refine (read_any A n c b (fun k => k < w.heap.size) w1 (H.out.new (Chg.of_below HB1.out))).mono ?_
  rintro e w2 ⟨A2, c2, he, h1, h2, h3⟩
  subst he
  rw [← hr] at h1
  obtain ⟨y, hy⟩ : ∃ y, y = sizeOf b := ⟨_, rfl⟩
  have HY := hid (show y = if x = 0 then 10 + l.length else 0 by rw [hy]; unfold sizeOf; rw [← hr])
  rw [← hy, ← hr]
  have H1 := hid h1
  have H2 := hid h2
  have HR := hid hr
  clear h1 h2 h3 hy hr
  simp only
  go_wp2_with fail
  refine (refread_any A n c b (fun k => k < w.heap.size) w2 ((H.out.new (Chg.of_below HB1.out)).chg H2.out (fun _ _ h => h))).mono ?_
  rintro e w3 ⟨A3, c3, he, h3, k, rfl⟩
  subst he
  rw [← HR.out] at h3 ⊢
  simp only at h3 ⊢
  have H3 := hid h3
  have hbel : Below w.heap.size w (w2.drewN k) := below_drewN (HB1.out.trans (H2.out.below HB1.out.size (fun _ h => h.elim))) k
  have HBEL := hid hbel
  clear h3 hbel
  by_cases hx : x = 0
  · subst hx
    obtain rfl : y = 10 + l.length := by have := HY.out; simpa using this
    have hs2 : (convert 22 9 (.slice A2 l.length c2)).run Try.prog (w2.drewN k) = .ok (.string (bstr l)) (w2.drewN k) := str_run (P := Try.prog) (src := 22) (dst := 9) (e := 5) (l := l) Try.underlying22 Try.underlying5 Try.underlying9 rfl ((own_at H1.out).2.2.2.chg ((Chg.refl (fun _ => False) w2).drewN k) (fun _ _ h => h)) (own_at H1.out).2.2.1 (own_at H1.out).1
    have hs3 : (convert 22 9 (.slice A3 l.length c3)).run Try.prog (w2.drewN k) = .ok (.string (bstr l)) (w2.drewN k) := str_run (P := Try.prog) (src := 22) (dst := 9) (e := 5) (l := l) Try.underlying22 Try.underlying5 Try.underlying9 rfl (H3.out.bytes.chg ((Chg.refl (fun _ => False) w2).drewN k) (fun _ _ h => h)) H3.out.2.2.2.1 H3.out.2.1
    have hll : l.length ≤ 3000 := by have := (FrameP.read_len HR.out.symm).1; have := H.out.1; omega
    go_wp2_with fail
    go_ret
    exact ⟨rfl, HBEL.out⟩
  · have hl : l = [] := FrameP.read_err HR.out.symm hx
    subst hl
    obtain rfl : y = 0 := by have := HY.out; simpa [hx] using this
    have g1 : ((x : Int) != 0) = true := by rw [bne_iff_ne]; omega
    go_wp2_with fail
    go_ret
    exact ⟨rfl, HBEL.out⟩

theorem reads_out (w : World) (A : Option Addr) (n c : Nat) (hn : 3000 < n) :
    Calls Try.prog 4 #[.slice A n c] w fun e w' => e = .returned (.bool true) ∧ Below w.heap.size w w' := by
  have g : (3000 : Int) < (n : Int) := by omega
  go_enter Try.func4, Try.ntmps4
  go_wp2_with fail
  refine (anchor_any w).mono ?_
  rintro e w1 ⟨rfl, hb1⟩
  go_wp2_with fail
  go_ret
  exact ⟨rfl, hb1⟩

theorem FrameReads_walk (w : World) (A : Option Addr) (n c : Nat) (b : List UInt8) (h : Ty.At Ty.u8 w (fun k => k < w.heap.size) A n c b) :
    Calls Try.prog 4 #[.slice A n c] w fun e w' => e = .returned (.bool true) ∧ Below w.heap.size w w' := by
  by_cases hn : n ≤ 3000
  · exact reads_in w A n c b h hn
  · exact reads_out w A n c (by omega)

end Go.Proofs.Ytodbaadcpgkbdaa.Fr
