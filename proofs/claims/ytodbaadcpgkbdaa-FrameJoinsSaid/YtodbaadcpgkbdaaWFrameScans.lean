/- The walk of the law FrameScans. -/
import Derived.Test.YtodbaadcpgkbdaaFrameS
namespace Go.Proofs.Ytodbaadcpgkbdaa.Fr
set_option linter.unusedVariables false
set_option linter.unusedSimpArgs false
open Go.RowKit Go.Proofs.Ytodbaadcpgkbdaa.C
attribute [local go_sem] max2_int min2_int max_two min_two

theorem scans_out (w : World) (A : Option Addr) (n c : Nat) (hn : 3000 < n) :
    Calls Try.prog 6 #[.slice A n c] w fun e w' => e = .returned (.bool true) ∧ Below w.heap.size w w' := by
  have g : (3000 : Int) < (n : Int) := by omega
  go_enter Try.func6, Try.ntmps6
  go_wp2_with fail
  refine (anchor_any w).mono ?_
  rintro e w1 ⟨rfl, hb1⟩
  go_wp2_with fail
  go_ret
  exact ⟨rfl, hb1⟩

/-- An element of a slice of slices of bytes. -/
theorem bs_at {w : World} {S : Nat → Prop} {A : Option Addr} {n c : Nat} {L : List (List UInt8)} (h : Ty.At BS w S A n c L) {k : Nat} {l : List UInt8} (hl : L[k]? = some l) :
    ∃ a A1 n1 c1, A = some a ∧ S a.block ∧ w.cell? (a.add k) = some (.slice A1 n1 c1) ∧ Ty.At Ty.u8 w S A1 n1 c1 l := by
  obtain ⟨a, cs, ha, hS, hK, hc⟩ := h.get (by decide) hl
  obtain ⟨A1, n1, c1, rfl, hx⟩ := hK
  have := hc 0 _ rfl
  simp only [show BS.sz = 1 from rfl, Nat.mul_one, Nat.add_zero] at this
  exact ⟨a, A1, n1, c1, ha, hS, this, hx⟩

set_option maxHeartbeats 2000000 in
set_option maxRecDepth 100000 in
theorem scans_in (w : World) (A : Option Addr) (n c : Nat) (b : List UInt8) (h : Ty.At Ty.u8 w (fun k => k < w.heap.size) A n c b) (hn : n ≤ 3000) :
    Calls Try.prog 6 #[.slice A n c] w fun e w' => e = .returned (.bool true) ∧ Below w.heap.size w w' := by
  have H := hid h
  have g : ¬ (3000 : Int) < (n : Int) := by omega
  clear h
  go_enter Try.func6, Try.ntmps6
  go_wp2_with fail
  refine (anchor_any w).mono ?_
  rintro e w1 ⟨rfl, hb1⟩
  have HB1 := hid hb1
  clear hb1
  go_wp2_with fail
  refine (scan_any A n c b (fun k => k < w.heap.size) w1 (H.out.new (Chg.of_below HB1.out)) (by omega)).mono ?_
  rintro e w2 ⟨A2, c2, rfl, h2, hc2⟩
  have H2 := hid h2
  have C2 := hid hc2
  clear h2 hc2
  go_wp2_with fail
  refine (refscan_any A n c b (fun k => k < w.heap.size) w2 ((H.out.new (Chg.of_below HB1.out)).chg C2.out (fun _ _ h => h)) (by omega)).mono ?_
  rintro e w3 ⟨A3, c3, rfl, h3, hc3⟩
  have C3 := hid hc3
  have T2 := hid ((H2.out.at rfl).chg hc3 (fun _ _ h => h))
  have T3 := hid (h3.at rfl)
  have hb := hid (show Below w.heap.size w w3 from HB1.out.trans ((C2.out.trans C3.out (fun _ h _ => h)).below HB1.out.size (fun _ h => h.elim)))
  obtain ⟨L, hL⟩ : ∃ L, L = (FrameP.scan b).1 := ⟨_, rfl⟩
  obtain ⟨u, hu⟩ : ∃ u, u = (FrameP.scan b).2 := ⟨_, rfl⟩
  rw [← hL] at T2 T3
  rw [← hL, ← hu]
  have HLM := hid (show L.length ≤ 9223372036854775807 by have h1 := T2.out.2.1; have h2 := T2.out.2.2.1; simp only [maxLen] at h2; omega)
  clear h3 hc3 hL hu
  go_wp2_with fail
  go_loopw [36] (fun i wr => ∃ j : Nat, j ≤ L.length ∧ i = .int .i64 j ∧ ∃ nn, wr = w3.drewN nn) (fun i _ => L.length - (intOf i).toNat)
  case atStart => exact ⟨0, Nat.zero_le _, rfl, 0, rfl⟩
  case round =>
    obtain ⟨j, hj, rfl, nn, rfl⟩ := hrel
    by_cases hlt : j < L.length
    · obtain ⟨l, hl⟩ : ∃ l, L[j]? = some l := ⟨_, List.getElem?_eq_getElem hlt⟩
      obtain ⟨a2, P2, n2, d2, ha2, _, k2, q2⟩ := bs_at T2.out hl
      obtain ⟨a3, P3, n3, d3, ha3, _, k3, q3⟩ := bs_at T3.out hl
      subst ha2 ha3
      have hs2 : ∀ j, (convert 22 9 (.slice P2 n2 d2)).run Try.prog (w3.drewN j) = .ok (.string (bstr l)) (w3.drewN j) := fun j => at_str (q2.chg ((Chg.refl (fun _ => False) w3).drewN j) (fun _ _ h => h))
      have hs3 : ∀ j, (convert 22 9 (.slice P3 n3 d3)).run Try.prog (w3.drewN j) = .ok (.string (bstr l)) (w3.drewN j) := fun j => at_str (q3.chg ((Chg.refl (fun _ => False) w3).drewN j) (fun _ _ h => h))
      have hw : IntKind.i64.wrap ((j : Int) + 1) = (j : Int) + 1 := IntWalk.i64_in _ (by have := HLM.out; omega)
      clear q2 q3 hl
      go_wp2_with fail
      go_quiet (fail)
      go_wp2_with fail
      go_roundw
      case measure => simp [intOf]; omega
      case rel => first | exact ⟨j + 1, by omega, by go_num, _, rfl⟩ | ((repeat apply Exists.intro); exact ⟨⟨j + 1, by omega, by go_num, _, rfl⟩, rfl⟩)
    · go_wp2_with fail
      go_ret
      exact ⟨rfl, below_drewN hb.out _⟩

theorem FrameScans_walk (w : World) (A : Option Addr) (n c : Nat) (b : List UInt8) (h : Ty.At Ty.u8 w (fun k => k < w.heap.size) A n c b) :
    Calls Try.prog 6 #[.slice A n c] w fun e w' => e = .returned (.bool true) ∧ Below w.heap.size w w' := by
  by_cases hn : n ≤ 3000
  · exact scans_in w A n c b h hn
  · exact scans_out w A n c (by omega)
end Go.Proofs.Ytodbaadcpgkbdaa.Fr
