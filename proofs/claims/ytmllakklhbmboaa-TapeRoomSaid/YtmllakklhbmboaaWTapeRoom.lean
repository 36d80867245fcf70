/- The walk of the law TapeRoom. -/
import Derived.Test.YtmllakklhbmboaaTapeA
import Derived.Test.YtmllakklhbmboaaTy
namespace Go.Proofs.Ytmllakklhbmboaa.T
set_option linter.unusedVariables false
set_option linter.unusedSimpArgs false
open Go.RowKit Go.Proofs.Ytmllakklhbmboaa.C
attribute [local go_sem] max2_int min2_int max_two min_two

set_option maxHeartbeats 4000000 in
set_option maxRecDepth 100000 in
theorem room_more (room n : Nat) (w : World) (h1 : room ≤ 500) (h2 : n ≤ 600) (off : Nat) (h : room < n) :
    Calls Try.prog 7 #[.int .i64 room, .int .i64 n, .int .i64 off] w fun e w' => e = .returned (.bool true) ∧ Below w.heap.size w w' := by
  have hmk := fun W => make_run (P := Try.prog) 22 5 (.int .u8 0) 1 Try.underlying22 info5 rfl (by decide) n (by omega) W
  have a1 : ¬ (room : Int) < 0 := by omega
  have a2 : ¬ (500 : Int) < (room : Int) := by omega
  have a3 : ¬ (n : Int) < 0 := by omega
  have a4 : ¬ (600 : Int) < (n : Int) := by omega
  have a5 : ¬ (off : Int) < 0 := by omega
  have EA := hid (append_full (b := []) (l := List.replicate n (0 : UInt8)) (s := 0) (r := room) (by simp; omega))
  go_enter Try.func7, Try.ntmps7
  go_wp2_with fail
  refine (anchor_any w).mono ?_
  rintro e w1 ⟨rfl, hb1⟩
  have HB1 := hid hb1
  clear hb1
  go_wp2_with fail
  refine (lv_new w w1 (fun _ => False) room HB1.out (fun _ h => h.elim) (by omega) (by omega)).mono ?_
  rintro e w2 ⟨rfl, h2, _⟩
  have H2 := hid h2
  clear h2
  go_wp2_with fail
  refine (lv_append (l := List.replicate n (0 : UInt8)) (H2.out.alloc (.cells (madeCells #[.int .u8 0] n) 5)) (by simp) (by simp) (Nat.le_refl _) (made_sees _ n (by omega)) (fun k hk => .inr (.inr hk))).mono ?_
  rintro e w3 ⟨rfl, h3, _⟩
  rw [EA.out] at h3 ⊢
  have H3 := hid h3
  clear h3
  go_wp2_with fail
  refine (lv_room H3.out).mono ?_
  rintro e w4 ⟨rfl, m4, rfl⟩
  go_wp2_with fail
  refine (lv_bytes (H3.out.drewN m4)).mono ?_
  rintro e w5 ⟨c5, rfl, h5, _⟩
  have H5 := hid h5
  clear h5
  go_wp2_with fail
  go_ret
  exact ⟨rfl, H5.out.below⟩

set_option maxHeartbeats 4000000 in
set_option maxRecDepth 100000 in
theorem room_fits (room n : Nat) (w : World) (h1 : room ≤ 500) (h2 : n ≤ 600) (off : Nat) (ho : off ≤ 9223372036854775807) (h : n ≤ room) :
    Calls Try.prog 7 #[.int .i64 room, .int .i64 n, .int .i64 off] w fun e w' => e = .returned (.bool true) ∧ Below w.heap.size w w' := by
  have hmk := fun W => make_run (P := Try.prog) 22 5 (.int .u8 0) 1 Try.underlying22 info5 rfl (by decide) n (by omega) W
  have a1 : ¬ (room : Int) < 0 := by omega
  have a2 : ¬ (500 : Int) < (room : Int) := by omega
  have a3 : ¬ (n : Int) < 0 := by omega
  have a4 : ¬ (600 : Int) < (n : Int) := by omega
  have a5 : ¬ (off : Int) < 0 := by omega
  have a6 : ¬ (room : Int) < (n : Int) := by omega
  obtain ⟨k, hk⟩ : ∃ k : Nat, (k : Int) = (off : Int) % ((n : Int) + 1) := ⟨(off : Int).toNat % (n + 1), by simp⟩
  have hkn : k ≤ n := by
    have := Int.emod_lt_of_pos (off : Int) (show (0 : Int) < (n : Int) + 1 by omega)
    omega
  have hmod : ((off : Int) % ((n : Int) + 1)) = (k : Int) := hk.symm
  clear hk
  have hsub : (room : Int) - (k : Int) = ((room - k : Nat) : Int) := by omega
  have hmk2 : ∀ W : World, (Instr.makeSlice 22 (.int .i64 ((room : Int) - (k : Int))) (.int .i64 ((room : Int) - (k : Int)))).run Try.prog W = .ok (.slice (some ⟨W.heap.size, 0, none⟩) (room - k) (room - k)) (W.alloc (.cells (madeCells #[.int .u8 0] (room - k)) 5)) := fun W => by rw [hsub]; exact make_run (P := Try.prog) 22 5 (.int .u8 0) 1 Try.underlying22 info5 rfl (by decide) (room - k) (by omega) W
  have EA := hid (append_calm (b := []) (l := List.replicate n (0 : UInt8)) (s := 0) (r := room) (by simp; omega))
  have ET := hid (trim_calm (b := [] ++ List.replicate n (0 : UInt8)) (s := 0) (r := room) (n := k) (by simp; omega))
  have EB := hid (append_calm (b := ([] ++ List.replicate n (0 : UInt8)).take k) (l := List.replicate (room - k) (0 : UInt8)) (s := k) (r := room) (by simp; omega))
  have EC := hid (append_full (b := ([] ++ List.replicate n (0 : UInt8)).take k ++ List.replicate (room - k) (0 : UInt8)) (l := [1]) (s := k) (r := room) (by simp; omega))
  have HS := hid hsub
  clear hsub
  go_enter Try.func7, Try.ntmps7
  go_wp2_with fail
  refine (anchor_any w).mono ?_
  rintro e w1 ⟨rfl, hb1⟩
  have HB1 := hid hb1
  clear hb1
  go_wp2_with fail
  refine (lv_new w w1 (fun _ => False) room HB1.out (fun _ h => h.elim) (by omega) (by omega)).mono ?_
  rintro e w2 ⟨rfl, h2, _⟩
  have H2 := hid h2
  clear h2
  go_wp2_with fail
  refine (lv_append (l := List.replicate n (0 : UInt8)) (H2.out.alloc (.cells (madeCells #[.int .u8 0] n) 5)) (by simp) (by simp) (Nat.le_refl _) (made_sees _ n (by omega)) (fun k hk => .inr (.inr hk))).mono ?_
  rintro e w3 ⟨rfl, h3, _⟩
  rw [EA.out] at h3 ⊢
  have H3 := hid h3
  clear h3
  go_wp2_with fail
  refine (lv_room H3.out).mono ?_
  rintro e w4 ⟨rfl, m4, rfl⟩
  go_wp2_with fail
  refine (lv_trim k (H3.out.drewN m4)).mono ?_
  rintro e w5 ⟨rfl, h5, _⟩
  rw [ET.out] at h5 ⊢
  have H5 := hid h5
  clear h5
  go_wp2_with fail
  refine (lv_room H5.out).mono ?_
  rintro e w6 ⟨rfl, m6, rfl⟩
  go_wp2_with fail
  refine (lv_safe (H5.out.drewN m6)).mono ?_
  rintro e w7 ⟨rfl, rfl⟩
  go_wp2_with fail
  refine (lv_append (l := List.replicate (room - k) 0) ((H5.out.drewN m6).alloc (.cells (madeCells #[.int .u8 0] (room - k)) 5)) (by simp) (by simp) (Nat.le_refl _) (made_sees _ (room - k) (by omega)) (fun k hk => .inr (.inr hk))).mono ?_
  rintro e w8 ⟨rfl, h8, _⟩
  rw [EB.out] at h8 ⊢
  have H8 := hid h8
  clear h8
  go_wp2_with fail
  refine (lv_append (l := [1]) (H8.out.alloc (.cells (u8s [1]).toArray 5)) (by simp) rfl (Nat.le_refl _) (lit_sees _ _) (fun k hk => .inr (.inr hk))).mono ?_
  rintro e w9 ⟨rfl, h9, _⟩
  rw [EC.out] at h9 ⊢
  have H9 := hid h9
  clear h9
  go_wp2_with fail
  go_ret
  exact ⟨rfl, H9.out.below⟩

theorem below_same {w w' : World} (h : w = w') : Below w.heap.size w w' := by subst h; exact Below.refl _ _

set_option maxHeartbeats 4000000 in
set_option maxRecDepth 100000 in
theorem room_out (room n off : Int) (w : World) (h : room < 0 ∨ 500 < room ∨ n < 0 ∨ 600 < n ∨ off < 0) :
    Calls Try.prog 7 #[.int .i64 room, .int .i64 n, .int .i64 off] w fun e w' => e = .returned (.bool true) ∧ Below w.heap.size w w' := by
  have main : ∀ (b1 b2 b3 b4 b5 : Bool), decide (room < 0) = b1 → decide (500 < room) = b2 → decide (n < 0) = b3 → decide (600 < n) = b4 → decide (off < 0) = b5 → (b1 || b2 || b3 || b4 || b5) = true →
      Calls Try.prog 7 #[.int .i64 room, .int .i64 n, .int .i64 off] w fun e w' => e = .returned (.bool true) ∧ Below w.heap.size w w' := by
    intro b1 b2 b3 b4 b5 e1 e2 e3 e4 e5 hb
    clear h
    cases b1 with
    | true =>
      clear hb e2 e3 e4 e5
      go_enter Try.func7, Try.ntmps7
      go_wp2_with fail
      refine (anchor_any w).mono ?_
      rintro e w1 ⟨rfl, hb1⟩
      go_wp2_with fail
      go_ret
      exact ⟨rfl, hb1⟩
    | false =>
    cases b2 with
    | true =>
      clear hb e3 e4 e5
      go_enter Try.func7, Try.ntmps7
      go_wp2_with fail
      refine (anchor_any w).mono ?_
      rintro e w1 ⟨rfl, hb1⟩
      go_wp2_with fail
      go_ret
      exact ⟨rfl, hb1⟩
    | false =>
    cases b3 with
    | true =>
      clear hb e4 e5
      go_enter Try.func7, Try.ntmps7
      go_wp2_with fail
      refine (anchor_any w).mono ?_
      rintro e w1 ⟨rfl, hb1⟩
      go_wp2_with fail
      go_ret
      exact ⟨rfl, hb1⟩
    | false =>
    cases b4 with
    | true =>
      clear hb e5
      go_enter Try.func7, Try.ntmps7
      go_wp2_with fail
      refine (anchor_any w).mono ?_
      rintro e w1 ⟨rfl, hb1⟩
      go_wp2_with fail
      go_ret
      exact ⟨rfl, hb1⟩
    | false =>
    cases b5 with
    | true =>
      clear hb
      go_enter Try.func7, Try.ntmps7
      go_wp2_with fail
      refine (anchor_any w).mono ?_
      rintro e w1 ⟨rfl, hb1⟩
      go_wp2_with fail
      go_ret
      exact ⟨rfl, hb1⟩
    | false => simp at hb
  refine main _ _ _ _ _ rfl rfl rfl rfl rfl ?_
  simp only [Bool.or_eq_true, decide_eq_true_eq]
  omega

theorem TapeRoom_walk (w : World) (room : Int) (_ : (Lit.int .i64 room).wf = true) (n : Int) (_ : (Lit.int .i64 n).wf = true) (off : Int) (ho : (Lit.int .i64 off).wf = true) :
    Calls Try.prog 7 #[.int .i64 room, .int .i64 n, .int .i64 off] w fun e w' => e = .returned (.bool true) ∧ Below w.heap.size w w' := by
  have hro := (wf64 ho).2
  by_cases h : room < 0 ∨ 500 < room ∨ n < 0 ∨ 600 < n ∨ off < 0
  · exact room_out room n off w h
  · obtain ⟨r, rfl⟩ := Int.eq_ofNat_of_zero_le (show 0 ≤ room by omega)
    obtain ⟨m, rfl⟩ := Int.eq_ofNat_of_zero_le (show 0 ≤ n by omega)
    obtain ⟨o, rfl⟩ := Int.eq_ofNat_of_zero_le (show 0 ≤ off by omega)
    by_cases hn : r < m
    · exact room_more r m w (by omega) (by omega) o hn
    · exact room_fits r m w (by omega) (by omega) o (by omega) (by omega)
end Go.Proofs.Ytmllakklhbmboaa.T
