/- The contract of the reference's Make. -/
import Derived.Test.YtodbaadcpgkbdaaFrameR
namespace Go.Proofs.Ytodbaadcpgkbdaa.Fr
set_option linter.unusedVariables false
set_option linter.unusedSimpArgs false
open Go.RowKit Go.Proofs.Ytodbaadcpgkbdaa.C
attribute [local go_sem] max2_int min2_int max_two min_two

theorem get_of_drop {α : Type} {l : List α} {i : Nat} {o : α} {r : List α} (h : l.drop i = o :: r) : l.toArray[i]? = some o := by
  have h2 : (l.drop i)[0]? = some o := by rw [h]; rfl
  rw [List.getElem?_drop] at h2
  simpa using h2
theorem own_At {w : World} {base m n c : Nat} {A : Option Addr} {l : List UInt8} (h : w.ownsRow base 5 1 (.slice A n c) m (u8s l)) (hm : m = n) : Ty.At Ty.u8 w (fun k => (Value.slice A n c).ownBlock = some k) A n c l := by
  subst hm
  obtain ⟨h1, h2, h3, h4⟩ := own_at h
  exact Ty.At.of_bytes (by have := h.1; simpa using this.symm) h1 h2 h3 h4
theorem at_str {w : World} {S : Nat → Prop} {A : Option Addr} {n c : Nat} {l : List UInt8} (h : Ty.At Ty.u8 w S A n c l) : (convert 22 9 (.slice A n c)).run Try.prog w = .ok (.string (bstr l)) w :=
  str_run (P := Try.prog) (src := 22) (dst := 9) (e := 5) (l := l) Try.underlying22 Try.underlying5 Try.underlying9 h.1 h.bytes h.2.2.2.1 h.2.1
theorem Made.chg {w w1 w2 : World} {v : Value} {l : List UInt8} {S : Nat → Prop} (h : Made w w1 v l) (hc : Chg S w1 w2) (hS : ∀ k, v.ownBlock = some k → ¬ S k) (hS' : ∀ k, S k → w.heap.size ≤ k) : Made w w2 v l :=
  ⟨hc.own h.1 hS, h.2.1.trans hc (fun k hk hlt => by have := hS' k hk; omega), h.2.2⟩

set_option maxHeartbeats 1000000 in
theorem refmake_any (A : Option Addr) (n c : Nat) (l : List UInt8) (S : Nat → Prop) (w : World) (h : Ty.At Ty.u8 w S A n c l) (hn : n ≤ 65536) :
    Calls Try.prog 14 #[.slice A n c] w fun e w' => ∃ A' c', e = .returned (.slice A' (10 + n) c') ∧ Made w w' (.slice A' (10 + n) c') (FrameP.frame l) := by
  have H := hid h
  have hl := h.1
  have HL := hid hl
  have hc1 := h.2.1
  have hc2 := h.2.2.2.1
  have HC := hid hc2
  clear h hl hc2
  go_enter Try.func14, Try.ntmps14
  go_wp2_with fail
  refine (number_any n _ (by omega)).mono ?_
  rintro e w1 ⟨he, hw1⟩
  have hz : (w.alloc (.cells #[.int .u8 67, .int .u8 70] 5)).heap.size = w.heap.size + 1 := by simp
  rw [hz] at he
  subst he
  have O0 := hid (lit_own w [67, 70] (by simp))
  have O1 := hid (show w1.ownsRow 0 5 1 (.slice (some ⟨w.heap.size, 0, none⟩) 2 2) 2 (u8s [67, 70]) by subst hw1; exact ((Chg.refl (fun _ => False) _).alloc _).own O0.out (fun _ _ h => h))
  have C1 := hid (show Chg (fun _ => False) w w1 by subst hw1; exact ((Chg.refl (fun _ => False) w).alloc _).alloc _)
  have S1 := hid (show Sees w1 (fun k => k = w.heap.size + 1) (some ⟨w.heap.size + 1, 0, none⟩) (u8s (FrameP.num4 n)) by subst hw1; simpa using lit_sees (w.alloc (.cells #[.int .u8 67, .int .u8 70] 5)) (FrameP.num4 n))
  have Z1 := hid (show w1.heap.size = w.heap.size + 2 by subst hw1; simp)
  clear hw1
  go_wp2_with (first | (at_builtin; (refine app_list _ rfl (.tmp 4) (.tmp 7) 22 5 (.int .u8 0) 1 1 rfl Try.underlying22 info5 rfl (by decide) (by decide) (.slice (some ⟨w.heap.size, 0, none⟩) 2 2) 2 _ rfl O1.out (some ⟨w.heap.size + 1, 0, none⟩) 4 4 (u8s (FrameP.num4 n)) _ rfl (by simp) (by omega) (by rw [u8s_length]; rfl) S1.out (u8s_one _) (by omega) ?_; intro A2 c2 w2 h1 h2 h3; have G1 := hid h1; have G2 := hid h2; have G3 := hid h3; clear h1 h2 h3)))
  have C2 := hid (show Chg (fun _ => False) w w2 from C1.out.trans (G2.out.mono (S' := fun k => w.heap.size ≤ k) (fun k hk _ => by simp [Value.ownBlock] at hk; omega)) (fun k hk hlt => by omega))
  have F2 := hid (show ∀ k, (Value.slice A2 6 c2).ownBlock = some k → w.heap.size ≤ k from fun k hk => by
    rcases G3.out k hk with h | h
    · simp [Value.ownBlock] at h; omega
    · have := Z1.out; omega)
  go_wp2_with fail
  refine (refsum_any A n c l S w2 (H.out.chg C2.out (fun _ _ h => h))).mono ?_
  rintro e w3 ⟨rfl, rfl⟩
  go_wp2_with fail
  refine (number_any (FrameP.sum l) _ (FrameP.sum_lt l)).mono ?_
  rintro e w3 ⟨rfl, hw3⟩
  have S3 := hid (show Sees w3 (fun k => k = w2.heap.size) (some ⟨w2.heap.size, 0, none⟩) (u8s (FrameP.num4 (FrameP.sum l))) by subst hw3; exact lit_sees w2 _)
  have C3 := hid (show Chg (fun _ => False) w2 w3 by subst hw3; exact (Chg.refl (fun _ => False) w2).alloc _)
  clear hw3
  go_wp2_with (first
    | (at_builtin
       refine app_list _ rfl (.tmp 9) (.tmp 12) 22 5 (.int .u8 0) 1 1 rfl Try.underlying22 info5 rfl (by decide) (by decide) (.slice A2 6 c2) 6 _ rfl (C3.out.own G1.out (fun _ _ h => h)) (some ⟨w2.heap.size, 0, none⟩) 4 4 (u8s (FrameP.num4 (FrameP.sum l))) _ rfl (by simp) (by omega) (by rw [u8s_length]; rfl) S3.out (u8s_one _) (by omega) ?_
       intro A4 c4 w4 h1 h2 h3
       have K1 := hid h1
       have K2 := hid h2
       have K3 := hid h3
       clear h1 h2 h3
       have C4 := hid (show Chg (fun _ => False) w w4 from (C2.out.trans C3.out (fun _ h _ => h)).trans (K2.out.mono (S' := fun k => w.heap.size ≤ k) (fun k hk _ => F2.out k hk)) (fun k hk hlt => by omega))
       have F4 := hid (show ∀ k, (Value.slice A4 10 c4).ownBlock = some k → w.heap.size ≤ k from fun k hk => by
         rcases K3.out k hk with h | h
         · exact F2.out k h
         · have := C2.out.size; have := C3.out.size; omega))
    | (at_builtin
       refine app_list _ rfl (.tmp 14) (.tmp 15) 22 5 (.int .u8 0) 1 1 rfl Try.underlying22 info5 rfl (by decide) (by decide) (.slice A4 10 c4) 10 _ rfl K1.out A n c (u8s l) S rfl HC.out hc1 (by rw [u8s_length, HL.out]; omega) (H.out.chg C4.out (fun _ _ h => h)).bytes (u8s_one _) (by omega) ?_
       intro A6 c6 w6 h1 h2 h3
       have L1 := hid h1
       have L2 := hid h2
       have L3 := hid h3
       clear h1 h2 h3))
  go_ret
  refine ⟨A6, c6, rfl, ?_, C4.out.trans (L2.out.mono (S' := fun k => w.heap.size ≤ k) (fun k hk _ => F4.out k hk)) (fun k hk hlt => by omega), fun k hk => ?_⟩
  · have g1 := L1.out
    have e : (FrameP.frame l).length = 10 + n := by rw [FrameP.frame_length, HL.out]
    have e2 : u8s (FrameP.frame l) = u8s [67, 70] ++ u8s (FrameP.num4 n) ++ u8s (FrameP.num4 (FrameP.sum l)) ++ u8s l := by rw [← u8s_append, ← u8s_append, ← u8s_append, FrameP.frame, HL.out]
    rw [e, e2]
    exact g1
  · rcases L3.out k hk with h | h
    · exact F4.out k h
    · have := C4.out.size; omega

end Go.Proofs.Ytodbaadcpgkbdaa.Fr
