/- Rows of frames that are cut off, as plain data. -/
import Derived.Test.YtodbaadcpgkbdaaFrameP
namespace Go.Proofs.Ytodbaadcpgkbdaa.FrameP
set_option linter.unusedVariables false

def flat (L : List (List UInt8)) : List UInt8 := (L.map frame).flatten
theorem flat_nil : flat [] = [] := rfl
theorem flat_cons (x : List UInt8) (L : List (List UInt8)) : flat (x :: L) = frame x ++ flat L := by simp [flat]
theorem flat_snoc (L : List (List UInt8)) (x : List UInt8) : flat (L ++ [x]) = flat L ++ frame x := by simp [flat]
theorem flat_append (L M : List (List UInt8)) : flat (L ++ M) = flat L ++ flat M := by simp [flat]
theorem flat_take_le (L : List (List UInt8)) {i j : Nat} (h : i ≤ j) : (flat (L.take i)).length ≤ (flat (L.take j)).length := by
  have : L.take j = L.take i ++ (L.take j).drop i := by
    have := List.take_append_drop i (L.take j)
    rw [List.take_take, Nat.min_eq_left h] at this
    exact this.symm
  rw [this, flat_append, List.length_append]
  omega
theorem scan_cut : ∀ (L : List (List UInt8)) (m : Nat), (∀ x ∈ L, x.length ≤ 65536) → m ≤ (flat L).length →
    ∃ i, i ≤ L.length ∧ scan ((flat L).take m) = (L.take i, (flat (L.take i)).length) ∧ (flat (L.take i)).length ≤ m ∧ (i < L.length → m < (flat (L.take (i + 1))).length)
  | [], m, _, hm => ⟨0, Nat.zero_le _, by simp [flat_nil, scan_no read_nil (by decide)], Nat.zero_le _, fun h => by simp at h⟩
  | x :: L, m, hx, hm => by
    have h1 := hx x (by simp)
    rw [flat_cons] at hm ⊢
    by_cases hc : m < (frame x).length
    · refine ⟨0, Nat.zero_le _, ?_, Nat.zero_le _, fun _ => ?_⟩
      · rw [List.take_append_of_le_length (by omega)]
        obtain ⟨e, he, hr⟩ := read_cut x m h1 hc
        rw [scan_no hr he]
        rfl
      · simp only [List.take_succ_cons, List.take_zero, flat_cons, flat_nil, List.append_nil]
        exact hc
    · rw [List.length_append] at hm
      obtain ⟨i, hi, hs, h2, h3⟩ := scan_cut L (m - (frame x).length) (fun y hy => hx y (by simp [hy])) (by omega)
      refine ⟨i + 1, by simp; omega, ?_, ?_, fun h => ?_⟩
      · rw [List.take_append, List.take_of_length_le (by omega), scan_ok (read_frame x _ h1)]
        have e2 : (frame x ++ (flat L).take (m - (frame x).length)).drop (10 + x.length) = (flat L).take (m - (frame x).length) := by rw [← frame_length, List.drop_left]
        rw [e2, hs]
        simp [flat_cons, frame_length]
      · simp only [List.take_succ_cons, flat_cons, List.length_append]
        omega
      · have := h3 (by simp at h; omega)
        simp only [List.take_succ_cons, flat_cons, List.length_append] at this ⊢
        omega
end Go.Proofs.Ytodbaadcpgkbdaa.FrameP
