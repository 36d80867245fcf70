/- The anchor of layer 12's statements. -/
import Derived.Test.YtmllakklhbmboaaTapeL
namespace Go.Proofs.Ytmllakklhbmboaa.T
set_option linter.unusedVariables false
set_option linter.unusedSimpArgs false
open Go.RowKit Go.Proofs.Ytmllakklhbmboaa.C
attribute [local go_sem] max2_int min2_int max_two min_two

/-- A literal of bytes in a new block. -/
theorem lit_sees (w : World) (l : List UInt8) : Sees (w.alloc (.cells (u8s l).toArray 5)) (fun k => k = w.heap.size) (some ⟨w.heap.size, 0, none⟩) (u8s l) := by
  refine .inr ⟨_, rfl, rfl, fun j u hj => ?_⟩
  rw [add_at, Nat.zero_add, cellAt (blk_new w _)]
  simpa using hj

set_option maxHeartbeats 1000000 in
theorem anchor_any (w : World) :
    Calls Try.prog 12 #[] w fun e w' => e = .returned (.bool true) ∧ Below w.heap.size w w' := by
  go_enter Try.func12, Try.ntmps12
  go_wp2_with fail
  refine (lv_new w w (fun _ => False) 10 (Below.refl _ _) (fun _ h => h.elim) (by decide) (by decide)).mono ?_
  rintro e w1 ⟨rfl, h1, _⟩
  have H1 := hid h1
  clear h1
  go_wp2_with fail
  refine (lv_append (l := [1, 2, 3]) (H1.out.alloc (.cells (u8s [1, 2, 3]).toArray 5)) (by simp) rfl (Nat.le_refl _) (lit_sees _ _) (fun k hk => .inr (.inr hk))).mono ?_
  rintro e w2 ⟨rfl, h2, _⟩
  have H2 := hid h2
  clear h2
  go_wp2_with fail
  refine (lv_sync H2.out).mono ?_
  rintro e w3 ⟨rfl, h3, _⟩
  have H3 := hid h3
  clear h3
  go_wp2_with fail
  refine (lv_append (l := [4, 5]) (H3.out.alloc (.cells (u8s [4, 5]).toArray 5)) (by simp) rfl (Nat.le_refl _) (lit_sees _ _) (fun k hk => .inr (.inr hk))).mono ?_
  rintro e w4 ⟨rfl, h4, _⟩
  have H4 := hid h4
  clear h4
  go_wp2_with fail
  refine (lv_crash (l := [240]) (H4.out.alloc (.cells (u8s [240]).toArray 5)) (by simp) rfl (Nat.le_refl _) (lit_sees _ _) (fun k hk => .inr (.inr hk))).mono ?_
  rintro e w5 ⟨rfl, h5, _⟩
  have H5 := hid h5
  clear h5
  go_wp2_with fail
  refine (lv_bytes H5.out).mono ?_
  rintro e w6 ⟨c6, rfl, h6, h6r, _, h6c⟩
  have H6 := hid h6
  obtain ⟨_, _, hv6, _, _, _, hs6⟩ := own_sees h6r
  injection hv6 with hA6 _ hc6
  subst hA6
  have hstr := str_run (P := Try.prog) (src := 22) (dst := 9) (e := 5) Try.underlying22 Try.underlying5 Try.underlying9 rfl hs6 (by simp) h6c
  have hx := bstr_toList
  clear h6 h6r hs6 h6c hc6
  go_wp2_with fail
  refine (lv_safe H6.out).mono ?_
  rintro e w7 ⟨rfl, rfl⟩
  go_wp2_with fail
  refine (lv_room H6.out).mono ?_
  rintro e w8 ⟨rfl, m8, rfl⟩
  go_wp2_with fail
  go_ret
  exact ⟨rfl, below_drewN H6.out.below _⟩

/-! ### A tape that is not armed -/
abbrev calm (b : List UInt8) (s r : Int) : TS := ⟨b, s, r, -1, false⟩
theorem append_calm {b l : List UInt8} {s r : Int} (h : (l.length : Int) ≤ r - b.length) : (calm b s r).append l = (calm (b ++ l) s r, 0) := by
  have h' : ¬ r - (b.length : Int) < (l.length : Int) := by omega
  simp [TS.append, TS.called, h', mx]
theorem append_full {b l : List UInt8} {s r : Int} (h : r - (b.length : Int) < (l.length : Int)) : (calm b s r).append l = (calm b s r, 41) := by
  simp [TS.append, h]
theorem sync_calm {b : List UInt8} {s r : Int} : (calm b s r).sync = (calm b b.length r, 0) := by simp [TS.sync, TS.called, mx]
theorem trim_calm {b : List UInt8} {s r : Int} {n : Nat} (h : n ≤ b.length) : (calm b s r).trim n = (calm (b.take n) n r, 0) := by
  have h' : ¬ ((n : Int) < 0 ∨ (b.length : Int) < (n : Int)) := by omega
  simp [TS.trim, TS.called, h', mx, h]

theorem made_sees (w : World) (m : Nat) (hm : m ≤ 281474976710656) : Sees (w.alloc (.cells (madeCells #[.int .u8 0] m) 5)) (fun k => k = w.heap.size) (some ⟨w.heap.size, 0, none⟩) (u8s (List.replicate m 0)) := by
  obtain ⟨A, c, hv, _, _, _, hs⟩ := own_sees (own_made w 5 (.int .u8 0) m hm)
  injection hv with hA _ _
  subst hA
  have e : u8s (List.replicate m 0) = List.replicate m (Value.int .u8 0) := by simp [u8s]
  rw [e]
  exact hs.mono (fun k hk => by simpa [Value.ownBlock] using hk.symm)

end Go.Proofs.Ytmllakklhbmboaa.T
