/- Contracts of frame.Read and of its reference, of slices.Clone of bytes, and of the reference's Make. -/
import Derived.Test.YtodbaadcpgkbdaaFrame
import Derived.Lib.SlBytesConst
namespace Go.Proofs.Ytodbaadcpgkbdaa.Fr
set_option linter.unusedVariables false
set_option linter.unusedSimpArgs false
open Go.RowKit Go.Proofs.Ytodbaadcpgkbdaa.C
attribute [local go_sem] max2_int min2_int max_two min_two

set_option maxHeartbeats 400000 in
theorem clone_any (A : Option Addr) (l : List UInt8) (n c : Nat) (S : Nat → Prop) (w : World) (h : Ty.At Ty.u8 w S A n c l) (hl : n ≤ 140737488355328) :
    Calls Try.prog 20 #[.slice A n c] w fun e w' => ∃ A' c', e = .returned (.slice A' n c') ∧ Made w w' (.slice A' n c') l := by
  obtain ⟨hn, hc, _, hA, _⟩ := id h
  have hs := h.bytes
  cases A with
  | none =>
    have := hA rfl
    subst this
    have : l = [] := List.eq_nil_of_length_eq_zero (by omega)
    subst this
    have : n = 0 := by omega
    subst this
    have e1 := fun w => run_eql_slice_nil (P := Try.prog) w 22 5 none 0 0 Try.underlying22
    clear hA hn hc hs hl h
    go_enter Try.func20, Try.ntmps20
    go_wp2
    go_ret
    exact ⟨none, 0, rfl, own_nil _ _ _, Chg.refl _ _, fun k hk => by simp [Value.ownBlock] at hk⟩
  | some a =>
    have e1 := fun w => run_eql_slice_nil (P := Try.prog) w 22 5 (some a) n c Try.underlying22
    have H1 := hid hs
    have H2 := hid hn
    have H3 := hid hc
    have H4 := hid hl
    have H5 := hid (lit_own w [] (by simp))
    clear hs hn hc hl hA h
    go_enter Try.func20, Try.ntmps20
    go_wp2_with (first | (at_builtin; refine app_list _ rfl (.tmp 5) (.tmp 6) 22 5 (.int .u8 0) 1 1 rfl Try.underlying22 info5 rfl (by decide) (by decide) (.slice (some ⟨w.heap.size, 0, none⟩) 0 0) 0 [] rfl H5.out (some a) n c (u8s l) S rfl (by simp) H3.out (by rw [u8s_length, H2.out]; omega) (H1.out.chg ((Chg.refl (fun _ => False) w).alloc _) (fun _ _ h => h)) (u8s_one l) (by have := H4.out; omega) ?_; intro A' c' w' h1 h2 h3; have G1 := hid h1; have G2 := hid h2; have G3 := hid h3; clear h1 h2 h3))
    go_ret
    have g1 := G1.out
    have g3 := G3.out
    rw [Nat.zero_add] at g1 g3
    have hn := H2.out
    refine ⟨A', c', rfl, ?_, ?_, ?_⟩
    · rw [← hn]; simpa using g1
    · exact ((Chg.refl (fun _ => False) w).alloc _).trans G2.out (fun i hi hlt => by simp [Value.ownBlock] at hi; omega)
    · intro k hk
      rcases g3 k hk with h | h
      · simp [Value.ownBlock] at h; omega
      · simp at h; omega

def sizeOf (b : List UInt8) : Nat := if (FrameP.read b).1 = 0 then 10 + (FrameP.read b).2.length else 0
def ReadTo (b : List UInt8) (w : World) (e : Ending) (w' : World) : Prop :=
  ∃ A' c', e = .returned (.tuple #[.slice A' (FrameP.read b).2.length c', .int .i64 (sizeOf b : Int), .int .i64 ((FrameP.read b).1 : Int)]) ∧ Made w w' (.slice A' (FrameP.read b).2.length c') (FrameP.read b).2
theorem made_nil (w : World) (n : Nat) : Made w (w.drewN n) (.slice none 0 0) [] := ⟨own_nil _ _ _, (Chg.refl (fun _ => False) w).drewN n, fun k hk => by simp [Value.ownBlock] at hk⟩
theorem readTo_err {b : List UInt8} {x : Nat} (h : FrameP.read b = (x, [])) (hx : x ≠ 0) (w : World) (n : Nat) : ReadTo b w (.returned (.tuple #[.slice none 0 0, .int .i64 0, .int .i64 (x : Int)])) (w.drewN n) := by
  refine ⟨none, 0, ?_, ?_⟩
  · simp [h, sizeOf, hx]
  · rw [h]; exact made_nil w n

/-- The first two bytes. -/
theorem head_cells {A : Option Addr} {n c : Nat} {l : List UInt8} {S : Nat → Prop} {w : World} (h : Ty.At Ty.u8 w S A n c l) (hn : 2 ≤ n) : ∃ a, A = some a ∧
    w.cell? a = some (.int .u8 ((l.getD 0 0).toNat : Int)) ∧ w.cell? ⟨a.block, a.off + 1, none⟩ = some (.int .u8 ((l.getD 1 0).toNat : Int)) := by
  have hl := h.1
  have hg : ∀ i, i < 2 → l[i]? = some (l.getD i 0) := fun i hi => by
    rw [List.getD_eq_getElem?_getD, List.getElem?_eq_getElem (by omega)]; rfl
  obtain ⟨a, ha, _, h0⟩ := Ty.byteAt h (hg 0 (by omega))
  obtain ⟨a1, ha1, _, h1⟩ := Ty.byteAt h (hg 1 (by omega))
  subst ha
  injection ha1 with e1
  subst e1
  exact ⟨a, rfl, by simpa [Addr.add] using h0, by simpa [Addr.add] using h1⟩

set_option maxHeartbeats 2000000 in
set_option maxRecDepth 100000 in
theorem read_any (A : Option Addr) (n c : Nat) (b : List UInt8) (S : Nat → Prop) (w : World) (h : Ty.At Ty.u8 w S A n c b) :
    Calls Try.prog 11 #[.slice A n c] w (ReadTo b w) := by
  have hl := h.1
  have hc := h.2.1
  have hm := h.2.2.1
  simp only [maxLen] at hm
  by_cases h10 : n < 10
  · have E := hid (show FrameP.read b = (11, []) by unfold FrameP.read; rw [if_pos (by omega)])
    clear hl hc hm h
    go_enter Try.func11, Try.ntmps11
    go_wp2
    go_ret3
    exact readTo_err E.out (by decide) w 0
  obtain ⟨a, ha, c0, c1⟩ := head_cells h (by omega)
  subst ha
  obtain ⟨b0, hb0⟩ : ∃ b0, b0 = b.getD 0 0 := ⟨_, rfl⟩
  obtain ⟨b1, hb1⟩ : ∃ b1, b1 = b.getD 1 0 := ⟨_, rfl⟩
  rw [← hb0] at c0
  rw [← hb1] at c1
  have i0 : (0 : Int) < (n : Int) := by omega
  have i1 : (1 : Int) < (n : Int) := by omega
  have h10' : ¬ (n : Int) < 10 := by omega
  by_cases hd0 : b0 = 67
  case neg =>
    have E := hid (show FrameP.read b = (10, []) by unfold FrameP.read; rw [if_neg (by omega), if_pos (by rw [← hb0]; exact .inl hd0)])
    have hx : ((b0.toNat : Int) != 67) = true := by rw [bne_iff_ne]; intro h; exact hd0 (UInt8.toNat_inj.1 (by show b0.toNat = 67; omega))
    clear hl hc hm h hd0 hb0 hb1
    go_enter Try.func11, Try.ntmps11
    go_wp2
    go_ret3
    exact readTo_err E.out (by decide) w 0
  have hx0 : ((b0.toNat : Int) != 67) = false := by rw [hd0]; rfl
  by_cases hd1 : b1 = 70
  case neg =>
    have E := hid (show FrameP.read b = (10, []) by unfold FrameP.read; rw [if_neg (by omega), if_pos (by rw [← hb1]; exact .inr hd1)])
    have hx : ((b1.toNat : Int) != 70) = true := by rw [bne_iff_ne]; intro h; exact hd1 (UInt8.toNat_inj.1 (by show b1.toNat = 70; omega))
    clear hl hc hm h hd0 hb0 hb1 hd1
    go_enter Try.func11, Try.ntmps11
    go_wp2
    go_ret3
    exact readTo_err E.out (by decide) w 0
  have hx1 : ((b1.toNat : Int) != 70) = false := by rw [hd1]; rfl
  have H := hid h
  obtain ⟨A2, c2, hcut2, hat2⟩ := Ty.At.from_ (P := Try.prog) (d := Ty.u8) Try.underlying22 info5 (some a) n c 2 (n - 2) 2 rfl (by omega) rfl
  obtain ⟨A6, c6, hcut6, hat6⟩ := Ty.At.from_ (P := Try.prog) (d := Ty.u8) Try.underlying22 info5 (some a) n c 6 (n - 6) 6 rfl (by omega) rfl
  have HAT2 := hid hat2
  have HAT6 := hid hat6
  obtain ⟨m, hmm⟩ : ∃ m, m = FrameP.four (b.drop 2) := ⟨_, rfl⟩
  have hhead : ¬ (b.getD 0 0 ≠ 67 ∨ b.getD 1 0 ≠ 70) := by rw [← hb0, ← hb1, hd0, hd1]; simp
  by_cases hbig : 65536 < m
  · have E := hid (show FrameP.read b = (12, []) by unfold FrameP.read; rw [if_neg (by omega), if_neg hhead, if_pos (by omega)])
    have HM := hid hmm
    have g : (65536 : Int) < (m : Int) := by omega
    clear hl hc hm h hd0 hb0 hb1 hd1 hhead hat2 hat6 hmm
    go_enter Try.func11, Try.ntmps11
    go_wp2_with fail
    refine (read4_any A2 (n - 2) c2 (b.drop 2) S w (HAT2.out w S b H.out) (by omega)).mono ?_
    rintro e w1 ⟨rfl, k, rfl⟩
    rw [← HM.out]
    go_wp2
    go_ret3
    exact readTo_err E.out (by decide) w k
  by_cases hshort : n - 10 < m
  · have E := hid (show FrameP.read b = (11, []) by unfold FrameP.read; rw [if_neg (by omega), if_neg hhead, if_neg (by omega), if_pos (by omega)])
    have HM := hid hmm
    have g : ¬ (65536 : Int) < (m : Int) := by omega
    have g2 : (n : Int) - 10 < (m : Int) := by omega
    clear hl hc h hd0 hb0 hb1 hd1 hhead hat2 hat6 hmm
    go_enter Try.func11, Try.ntmps11
    go_wp2_with fail
    refine (read4_any A2 (n - 2) c2 (b.drop 2) S w (HAT2.out w S b H.out) (by omega)).mono ?_
    rintro e w1 ⟨rfl, k, rfl⟩
    rw [← HM.out]
    go_wp2
    go_ret3
    exact readTo_err E.out (by decide) w k
  have g : ¬ (65536 : Int) < (m : Int) := by omega
  have g2 : ¬ (n : Int) - 10 < (m : Int) := by omega
  have hnm : (n : Int) ≤ 9223372036854775807 := by omega
  have hadd : IntKind.i64.wrap (10 + (m : Int)) = 10 + (m : Int) := IntWalk.i64_in _ (by omega)
  obtain ⟨A10, c10, hcut10, hat10⟩ := Ty.At.mid_ (P := Try.prog) (d := Ty.u8) Try.underlying22 info5 (some a) n c 10 (10 + m) m 10 (10 + (m : Int)) rfl (by omega) (by omega) (by omega) hc (by omega)
  have HAT10 := hid hat10
  have hbody : (b.take (10 + m)).drop 10 = (b.drop 10).take m := by rw [List.drop_take]; congr 1; omega
  have HBODY := hid hbody
  obtain ⟨sm, hsm⟩ : ∃ sm, sm = FrameP.sum ((b.drop 10).take m) := ⟨_, rfl⟩
  obtain ⟨s6, hs6⟩ : ∃ s6, s6 = FrameP.four (b.drop 6) := ⟨_, rfl⟩
  have HSM := hid hsm
  have HS6 := hid hs6
  have HM := hid hmm
  have hr4 : ∀ wx : World, Chg (fun _ => False) w wx → Calls Try.prog 19 #[.slice A6 (n - 6) c6] wx fun e w' => e = .returned (.int .i64 (s6 : Int)) ∧ ∃ j, w' = wx.drewN j := fun wx hx => by
    rw [HS6.out]; exact read4_any A6 (n - 6) c6 (b.drop 6) S _ (HAT6.out _ S b (H.out.chg hx (fun _ _ h => h))) (by omega)
  have hrs : ∀ wx : World, Chg (fun _ => False) w wx → Calls Try.prog 12 #[.slice A10 m c10] wx fun e w' => e = .returned (.int .i64 (sm : Int)) ∧ w' = wx := fun wx hx => by
    rw [HSM.out, ← HBODY.out]
    exact (sum_any A10 m c10 _ S _ (HAT10.out _ S b (H.out.chg hx (fun _ _ h => h)))).mono (fun _ _ h => ⟨h.1, h.2.symm⟩)
  have HR4 := hid hr4
  have HRS := hid hrs
  by_cases hse : s6 = sm
  · have E := hid (show FrameP.read b = (0, (b.drop 10).take m) by unfold FrameP.read; rw [if_neg (by omega), if_neg hhead, if_neg (by omega), if_neg (by omega), ← hmm, ← hs6, ← hsm, if_neg (by simp [hse])])
    have hx : ((s6 : Int) != (sm : Int)) = false := by rw [hse]; simp
    have HLEN := hid (show ((b.drop 10).take m).length = m by rw [List.length_take, List.length_drop]; omega)
    clear hl hc h hd0 hb0 hb1 hd1 hhead hat2 hat6 hat10 hmm hsm hs6 hr4 hrs hse hbody
    go_enter Try.func11, Try.ntmps11
    go_wp2_with fail
    refine (read4_any A2 (n - 2) c2 (b.drop 2) S w (HAT2.out w S b H.out) (by omega)).mono ?_
    rintro e w1 ⟨rfl, hk⟩
    have HK := hid hk
    have HKC := hid (show Chg (fun _ => False) w w1 by obtain ⟨k, rfl⟩ := hk; exact (Chg.refl (fun _ => False) w).drewN _)
    clear hk
    rw [← HM.out]
    go_wp2_with fail
    go_quiet ((first | (go_at_call 19; exact Calls.quiet_of (HR4.out _ (HKC.out.drewN _))) | (go_at_call 12; exact Calls.quiet_of_same (HRS.out _ (HKC.out.drewN _)))))
    go_wp2_with fail
    refine (clone_any A10 _ m c10 S _ (HAT10.out _ S b (H.out.chg (HKC.out.drewN _) (fun _ _ h => h))) (by omega)).mono ?_
    rintro e w2 ⟨A', c', rfl, h1, h2, h3⟩
    rw [HBODY.out] at h1
    have H1 := hid h1
    have H2 := hid h2
    have H3 := hid h3
    clear h1 h2 h3
    go_wp2
    go_ret3
    refine ⟨A', c', ?_, ?_⟩
    · rw [E.out]
      simp [sizeOf, E.out, HLEN.out]
    · rw [E.out]
      have e1 : (((b.drop 10).take m)).length = m := HLEN.out
      show Made w w2 (.slice A' ((b.drop 10).take m).length c') ((b.drop 10).take m)
      rw [e1]
      exact ⟨by rw [e1]; have := H1.out; rw [e1] at this; exact this, (HKC.out.drewN _).trans H2.out (fun _ h _ => h), fun k hk => by have := H3.out k hk; have := HKC.out.size; simp at *; omega⟩
  · have E := hid (show FrameP.read b = (15, []) by unfold FrameP.read; rw [if_neg (by omega), if_neg hhead, if_neg (by omega), if_neg (by omega), ← hmm, ← hs6, ← hsm, if_pos hse])
    have hx : ((s6 : Int) != (sm : Int)) = true := by rw [bne_iff_ne]; omega
    clear hl hc h hd0 hb0 hb1 hd1 hhead hat2 hat6 hat10 hmm hsm hs6 hr4 hrs hse hbody
    go_enter Try.func11, Try.ntmps11
    go_wp2_with fail
    refine (read4_any A2 (n - 2) c2 (b.drop 2) S w (HAT2.out w S b H.out) (by omega)).mono ?_
    rintro e w1 ⟨rfl, hk⟩
    have HK := hid hk
    have HKC := hid (show Chg (fun _ => False) w w1 by obtain ⟨k, rfl⟩ := hk; exact (Chg.refl (fun _ => False) w).drewN _)
    clear hk
    rw [← HM.out]
    go_wp2_with fail
    go_quiet ((first | (go_at_call 19; exact Calls.quiet_of (HR4.out _ (HKC.out.drewN _))) | (go_at_call 12; exact Calls.quiet_of_same (HRS.out _ (HKC.out.drewN _)))))
    go_wp2
    go_ret3
    obtain ⟨k, rfl⟩ := HK.out
    rw [World.drewN_drewN]
    exact readTo_err E.out (by decide) w _

/-- The reference's Read hands a part of the bytes back. -/
def RefReadTo (b : List UInt8) (S : Nat → Prop) (w : World) (e : Ending) (w' : World) : Prop :=
  ∃ A' c', e = .returned (.tuple #[.slice A' (FrameP.read b).2.length c', .int .i64 ((FrameP.read b).1 : Int)]) ∧ Ty.At Ty.u8 w S A' (FrameP.read b).2.length c' (FrameP.read b).2 ∧ ∃ m, w' = w.drewN m
theorem at_nil (w : World) (S : Nat → Prop) : Ty.At Ty.u8 w S none 0 0 [] := ⟨rfl, Nat.le_refl _, by simp [maxLen], fun _ => rfl, [], .nil _ _ _, Ty.Row.nil _ _ _⟩
theorem refReadTo_err {b : List UInt8} {x : Nat} (h : FrameP.read b = (x, [])) (S : Nat → Prop) (w w' : World) (hw : ∃ m, w' = w.drewN m) : RefReadTo b S w (.returned (.tuple #[.slice none 0 0, .int .i64 (x : Int)])) w' := by
  refine ⟨none, 0, ?_, ?_, hw⟩
  · simp [h]
  · rw [h]; exact at_nil w S

set_option maxHeartbeats 2000000 in
set_option maxRecDepth 100000 in
theorem refread_any (A : Option Addr) (n c : Nat) (b : List UInt8) (S : Nat → Prop) (w : World) (h : Ty.At Ty.u8 w S A n c b) :
    Calls Try.prog 15 #[.slice A n c] w (RefReadTo b S w) := by
  have hl := h.1
  have hc := h.2.1
  have hm := h.2.2.1
  simp only [maxLen] at hm
  by_cases h10 : n < 10
  · have E := hid (show FrameP.read b = (11, []) by unfold FrameP.read; rw [if_pos (by omega)])
    clear hl hc hm h
    go_enter Try.func15, Try.ntmps15
    go_wp2
    go_ret2
    exact refReadTo_err E.out S w w ⟨0, rfl⟩
  obtain ⟨a, ha, c0, c1⟩ := head_cells h (by omega)
  subst ha
  obtain ⟨b0, hb0⟩ : ∃ b0, b0 = b.getD 0 0 := ⟨_, rfl⟩
  obtain ⟨b1, hb1⟩ : ∃ b1, b1 = b.getD 1 0 := ⟨_, rfl⟩
  rw [← hb0] at c0
  rw [← hb1] at c1
  have i0 : (0 : Int) < (n : Int) := by omega
  have i1 : (1 : Int) < (n : Int) := by omega
  have h10' : ¬ (n : Int) < 10 := by omega
  by_cases hd0 : b0 = 67
  case neg =>
    have E := hid (show FrameP.read b = (10, []) by unfold FrameP.read; rw [if_neg (by omega), if_pos (by rw [← hb0]; exact .inl hd0)])
    have hx : ((b0.toNat : Int) != 67) = true := by rw [bne_iff_ne]; intro h; exact hd0 (UInt8.toNat_inj.1 (by show b0.toNat = 67; omega))
    clear hl hc hm h hd0 hb0 hb1
    go_enter Try.func15, Try.ntmps15
    go_wp2
    go_ret2
    exact refReadTo_err E.out S w w ⟨0, rfl⟩
  have hx0 : ((b0.toNat : Int) != 67) = false := by rw [hd0]; rfl
  by_cases hd1 : b1 = 70
  case neg =>
    have E := hid (show FrameP.read b = (10, []) by unfold FrameP.read; rw [if_neg (by omega), if_pos (by rw [← hb1]; exact .inr hd1)])
    have hx : ((b1.toNat : Int) != 70) = true := by rw [bne_iff_ne]; intro h; exact hd1 (UInt8.toNat_inj.1 (by show b1.toNat = 70; omega))
    clear hl hc hm h hd0 hb0 hb1 hd1
    go_enter Try.func15, Try.ntmps15
    go_wp2
    go_ret2
    exact refReadTo_err E.out S w w ⟨0, rfl⟩
  have hx1 : ((b1.toNat : Int) != 70) = false := by rw [hd1]; rfl
  have H := hid h
  obtain ⟨A2, c2, hcut2, hat2⟩ := Ty.At.mid_ (P := Try.prog) (d := Ty.u8) Try.underlying22 info5 (some a) n c 2 6 4 2 6 rfl rfl (by omega) (by omega) hc rfl
  obtain ⟨A6, c6, hcut6, hat6⟩ := Ty.At.mid_ (P := Try.prog) (d := Ty.u8) Try.underlying22 info5 (some a) n c 6 10 4 6 10 rfl rfl (by omega) (by omega) hc rfl
  have four_take : ∀ k, FrameP.four ((b.take (k + 4)).drop k) = FrameP.four (b.drop k) := fun k => by
    simp only [FrameP.four, List.getD_eq_getElem?_getD, List.getElem?_drop, List.getElem?_take]
    simp
  have HAT2 := hid hat2
  have HAT6 := hid hat6
  obtain ⟨m, hmm⟩ : ∃ m, m = FrameP.four (b.drop 2) := ⟨_, rfl⟩
  have HM := hid (show FrameP.four ((b.take 6).drop 2) = m by rw [hmm]; exact four_take 2)
  have hhead : ¬ (b.getD 0 0 ≠ 67 ∨ b.getD 1 0 ≠ 70) := by rw [← hb0, ← hb1, hd0, hd1]; simp
  by_cases hbig : 65536 < m
  · have E := hid (show FrameP.read b = (12, []) by unfold FrameP.read; rw [if_neg (by omega), if_neg hhead, if_pos (by omega)])
    have g : (65536 : Int) < (m : Int) := by omega
    clear hl hc hm h hd0 hb0 hb1 hd1 hhead hat2 hat6 hmm four_take
    go_enter Try.func15, Try.ntmps15
    go_wp2_with fail
    refine (reffour_any A2 4 c2 _ S w (HAT2.out w S b H.out) (by omega)).mono ?_
    rintro e w1 ⟨rfl, k, rfl⟩
    rw [HM.out]
    go_wp2
    go_ret2
    exact refReadTo_err E.out S w _ ⟨k, rfl⟩
  have hadd : IntKind.i64.wrap (10 + (m : Int)) = 10 + (m : Int) := IntWalk.i64_in _ (by omega)
  by_cases hshort : n < 10 + m
  · have E := hid (show FrameP.read b = (11, []) by unfold FrameP.read; rw [if_neg (by omega), if_neg hhead, if_neg (by omega), if_pos (by omega)])
    have g : ¬ (65536 : Int) < (m : Int) := by omega
    have g2 : (n : Int) < 10 + (m : Int) := by omega
    clear hl hc h hd0 hb0 hb1 hd1 hhead hat2 hat6 hmm four_take
    go_enter Try.func15, Try.ntmps15
    go_wp2_with fail
    refine (reffour_any A2 4 c2 _ S w (HAT2.out w S b H.out) (by omega)).mono ?_
    rintro e w1 ⟨rfl, k, rfl⟩
    rw [HM.out]
    go_wp2
    go_ret2
    exact refReadTo_err E.out S w _ ⟨k, rfl⟩
  have g : ¬ (65536 : Int) < (m : Int) := by omega
  have g2 : ¬ (n : Int) < 10 + (m : Int) := by omega
  have hnm : (n : Int) ≤ 9223372036854775807 := by omega
  obtain ⟨A10, c10, hcut10, hat10⟩ := Ty.At.mid_ (P := Try.prog) (d := Ty.u8) Try.underlying22 info5 (some a) n c 10 (10 + m) m 10 (10 + (m : Int)) rfl (by omega) (by omega) (by omega) hc (by omega)
  have HAT10 := hid hat10
  have hbody : (b.take (10 + m)).drop 10 = (b.drop 10).take m := by rw [List.drop_take]; congr 1; omega
  have HBODY := hid hbody
  obtain ⟨sm, hsm⟩ : ∃ sm, sm = FrameP.sum ((b.drop 10).take m) := ⟨_, rfl⟩
  obtain ⟨s6, hs6⟩ : ∃ s6, s6 = FrameP.four (b.drop 6) := ⟨_, rfl⟩
  have HSM := hid hsm
  have HS6 := hid (show FrameP.four ((b.take 10).drop 6) = s6 by rw [hs6]; exact four_take 6)
  have hr4 : ∀ wx : World, Chg (fun _ => False) w wx → Calls Try.prog 22 #[.slice A6 4 c6] wx fun e w' => e = .returned (.int .i64 (s6 : Int)) ∧ ∃ j, w' = wx.drewN j := fun wx hx => by
    rw [← HS6.out]; exact reffour_any A6 4 c6 _ S _ (HAT6.out _ S b (H.out.chg hx (fun _ _ h => h))) (by omega)
  have hrs : ∀ wx : World, Chg (fun _ => False) w wx → Calls Try.prog 13 #[.slice A10 m c10] wx fun e w' => e = .returned (.int .i64 (sm : Int)) ∧ w' = wx := fun wx hx => by
    rw [HSM.out, ← HBODY.out]
    exact (refsum_any A10 m c10 _ S _ (HAT10.out _ S b (H.out.chg hx (fun _ _ h => h)))).mono (fun _ _ h => ⟨h.1, h.2.symm⟩)
  have HR4 := hid hr4
  have HRS := hid hrs
  by_cases hse : s6 = sm
  · have E := hid (show FrameP.read b = (0, (b.drop 10).take m) by unfold FrameP.read; rw [if_neg (by omega), if_neg hhead, if_neg (by omega), if_neg (by omega), ← hmm, ← hs6, ← hsm, if_neg (by simp [hse])])
    have hx : ((s6 : Int) != (sm : Int)) = false := by rw [hse]; simp
    have HLEN := hid (show ((b.drop 10).take m).length = m by rw [List.length_take, List.length_drop]; omega)
    clear hl hc h hd0 hb0 hb1 hd1 hhead hat2 hat6 hat10 hmm hsm hs6 hr4 hrs hse hbody four_take
    go_enter Try.func15, Try.ntmps15
    go_wp2_with fail
    refine (reffour_any A2 4 c2 _ S w (HAT2.out w S b H.out) (by omega)).mono ?_
    rintro e w1 ⟨rfl, hk⟩
    have HK := hid hk
    have HKC := hid (show Chg (fun _ => False) w w1 by obtain ⟨k, rfl⟩ := hk; exact (Chg.refl (fun _ => False) w).drewN _)
    clear hk
    rw [HM.out]
    go_wp2_with fail
    go_quiet ((first | (go_at_call 22; exact Calls.quiet_of (HR4.out _ (HKC.out.drewN _))) | (go_at_call 13; exact Calls.quiet_of_same (HRS.out _ (HKC.out.drewN _)))))
    go_wp2
    go_ret2
    obtain ⟨k, hk⟩ := HK.out
    refine ⟨A10, c10, ?_, ?_, ⟨_, by rw [hk, World.drewN_drewN]⟩⟩
    · rw [E.out]
      simp [HLEN.out]
    · rw [E.out]
      show Ty.At Ty.u8 w S A10 ((b.drop 10).take m).length c10 ((b.drop 10).take m)
      rw [HLEN.out, ← HBODY.out]
      exact HAT10.out w S b H.out
  · have E := hid (show FrameP.read b = (15, []) by unfold FrameP.read; rw [if_neg (by omega), if_neg hhead, if_neg (by omega), if_neg (by omega), ← hmm, ← hs6, ← hsm, if_pos hse])
    have hx : ((s6 : Int) != (sm : Int)) = true := by rw [bne_iff_ne]; omega
    clear hl hc h hd0 hb0 hb1 hd1 hhead hat2 hat6 hat10 hmm hsm hs6 hr4 hrs hse hbody four_take
    go_enter Try.func15, Try.ntmps15
    go_wp2_with fail
    refine (reffour_any A2 4 c2 _ S w (HAT2.out w S b H.out) (by omega)).mono ?_
    rintro e w1 ⟨rfl, hk⟩
    have HK := hid hk
    have HKC := hid (show Chg (fun _ => False) w w1 by obtain ⟨k, rfl⟩ := hk; exact (Chg.refl (fun _ => False) w).drewN _)
    clear hk
    rw [HM.out]
    go_wp2_with fail
    go_quiet ((first | (go_at_call 22; exact Calls.quiet_of (HR4.out _ (HKC.out.drewN _))) | (go_at_call 13; exact Calls.quiet_of_same (HRS.out _ (HKC.out.drewN _)))))
    go_wp2
    go_ret2
    obtain ⟨k, hk⟩ := HK.out
    exact refReadTo_err E.out S w _ ⟨_, by rw [hk, World.drewN_drewN]⟩

set_option maxHeartbeats 2000000 in
theorem anchor_any (w : World) : Calls Try.prog 9 #[] w fun e w' => e = .returned (.bool true) ∧ Below w.heap.size w w' := by
  go_enter Try.func9, Try.ntmps9
  go_wp2_with fail
  refine (make_any none 0 0 [] (fun _ => False) w (at_nil w _) (by omega)).mono ?_
  rintro e w1 ⟨A1, c1, rfl, h1, h2, h3⟩
  have hat := own_at (n := 10) h1
  have hs1 : (convert 22 9 (.slice A1 10 c1)).run Try.prog w1 = .ok (.string (bstr (FrameP.frame []))) w1 := str_run (P := Try.prog) (src := 22) (dst := 9) (e := 5) (l := FrameP.frame []) Try.underlying22 Try.underlying5 Try.underlying9 rfl hat.2.2.2 hat.2.2.1 hat.1
  have hx : (bstr (FrameP.frame [])).toList = [67, 70, 0, 0, 0, 0, 0, 0, 0, 1] := by rw [bstr_toList]; decide
  have H2 := hid h2
  have kc := fun (w : World) (C : Array Value) (n c : Nat) => Lib.run_convert_bytes_const (P := Try.prog) w 22 5 C n c Try.underlying22 Try.underlying5
  clear h1 h2 h3 hat
  go_wp2_with fail
  refine (sum_any (some ⟨w1.heap.size, 0, none⟩) 3 3 [97, 98, 99] (fun k => k = w1.heap.size) _ (Ty.At.of_bytes rfl (Nat.le_refl _) (by simp [maxLen]) (by simp) (.inr ⟨_, rfl, rfl, fun j u hj => by rw [add_at, Nat.zero_add, cellAt (blk_new w1 _)]; simpa [u8s] using hj⟩))).mono ?_
  rintro e w2 ⟨rfl, rfl⟩
  have hs : FrameP.sum [97, 98, 99] = 38600999 := by decide
  rw [hs]
  go_wp2_with fail
  go_ret
  exact ⟨rfl, ((H2.out).alloc _).below (Nat.le_refl _) (fun _ h => h.elim)⟩

end Go.Proofs.Ytodbaadcpgkbdaa.Fr
