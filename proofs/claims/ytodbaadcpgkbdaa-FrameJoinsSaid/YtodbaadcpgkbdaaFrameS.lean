/- The contracts of frame.Scan and of its reference. -/
import Derived.Test.YtodbaadcpgkbdaaFrameM
import Derived.Test.YtodbaadcpgkbdaaAcc
namespace Go.Proofs.Ytodbaadcpgkbdaa.Fr
set_option linter.unusedVariables false
set_option linter.unusedSimpArgs false
open Go.RowKit Go.Proofs.Ytodbaadcpgkbdaa.C
attribute [local go_sem] max2_int min2_int max_two min_two

theorem info22 : (Try.prog.info? 22).map (fun i => (i.zero, i.size, i.bytes)) = some (some (.slice none 0 0), 1, 24) := by kernel_rfl
abbrev BS : Ty (List UInt8) := Ty.slice Ty.u8

def Scanned (R : Nat → Prop) (b : List UInt8) (w : World) (e : Ending) (w' : World) : Prop :=
  ∃ A' c', e = .returned (.tuple #[.slice A' (FrameP.scan b).1.length c', .int .i64 ((FrameP.scan b).2 : Int)]) ∧ Acc BS 22 w w' R (.slice A' (FrameP.scan b).1.length c') (FrameP.scan b).1 ∧ Chg (fun _ => False) w w'

/-- A block of one cell is seen. -/
theorem one_sees (w : World) (t : TypeId) (v : Value) : Sees (w.alloc (.cells #[v] t)) (fun k => k = w.heap.size) (some ⟨w.heap.size, 0, none⟩) [v] := by
  refine .inr ⟨_, rfl, rfl, fun j u hj => ?_⟩
  rw [add_at, Nat.zero_add, cellAt (blk_new w _)]
  simpa using hj

set_option maxHeartbeats 2000000 in
set_option maxRecDepth 100000 in
theorem scan_any (A : Option Addr) (n c : Nat) (b : List UInt8) (S : Nat → Prop) (w : World) (h : Ty.At Ty.u8 w S A n c b) (hn : n ≤ 1048576) :
    Calls Try.prog 16 #[.slice A n c] w (Scanned (fun k => w.heap.size ≤ k) b w) := by
  have H := hid h
  have HN := hid h.1
  have HC := hid h.2.1
  clear h
  go_enter Try.func16, Try.ntmps16
  go_wp2
  go_loopw [2, 3] (fun v i wr => ∃ (done : List (List UInt8)) (u : Nat), u ≤ n ∧ done.length ≤ u ∧ i = .int .i64 u ∧ Acc BS 22 w wr (fun k => w.heap.size ≤ k) v done ∧ Chg (fun _ => False) w wr ∧ FrameP.scan b = (done ++ (FrameP.scan (b.drop u)).1, u + (FrameP.scan (b.drop u)).2)) (fun _ i _ => n - (intOf i).toNat)
  case atStart => exact ⟨[], 0, Nat.zero_le _, Nat.zero_le _, rfl, Acc.nil _ _ _ _ _, Chg.refl _ _, by simp⟩
  case round =>
    obtain ⟨done, u, hu, hdu, rfl, hacc, hch, hscan⟩ := hrel
    have HAC := hid hacc
    have HCH := hid hch
    have HSC := hid hscan
    obtain ⟨Av, cv, hv⟩ := hacc.form
    subst hv
    obtain ⟨A1, c1, hcut, hat⟩ := Ty.At.from_ (P := Try.prog) (d := Ty.u8) Try.underlying22 info5 A n c u (n - u) u rfl hu rfl
    have HAT := hid hat
    obtain ⟨x, l, hr⟩ : ∃ x l, FrameP.read (b.drop u) = (x, l) := ⟨_, _, rfl⟩
    have HR := hid hr
    clear hacc hch hscan hat hr
    go_wp2_with fail
    refine (read_any A1 (n - u) c1 (b.drop u) S wr (HAT.out wr S b (H.out.chg HCH.out (fun _ _ h => h)))).mono ?_
    rintro e w2 ⟨A2, c2, he, h1, h2, h3⟩
    obtain ⟨y, hy⟩ : ∃ y, y = sizeOf (b.drop u) := ⟨_, rfl⟩
    have HY := hid (show y = if x = 0 then 10 + l.length else 0 by rw [hy]; unfold sizeOf; rw [HR.out])
    rw [HR.out, ← hy] at he
    rw [HR.out] at h1 h3
    simp only at he h1 h3
    subst he
    have H1 := hid h1
    have H2 := hid h2
    have H3 := hid h3
    clear h1 h2 h3 hy
    by_cases hx : x = 0
    · subst hx
      obtain rfl : y = 10 + l.length := by have := HY.out; simpa using this
      have hl : 10 + l.length ≤ n - u := by have := (FrameP.read_len HR.out).1; rw [List.length_drop, ← HN.out] at this; omega
      have hw : IntKind.i64.wrap ((u : Int) + (10 + (l.length : Int))) = (u : Int) + (10 + (l.length : Int)) := IntWalk.i64_in _ (by omega)
      obtain ⟨cells, a1, a2, a3⟩ := HAC.out.chg H2.out (fun _ _ h => h) (fun _ _ _ _ h => h)
      have A1' := hid a1
      have A2' := hid a2
      have A3' := hid a3
      clear a1 a2 a3
      go_wp2_with (at_builtin; refine app_list _ rfl (.tmp 19) (.tmp 21) 36 22 (.slice none 0 0) 1 24 rfl Try.underlying36 info22 rfl (by decide) (by decide) (.slice Av done.length cv) done.length cells rfl (((Chg.refl (fun _ => False) w2).alloc _).own A1'.out (fun _ _ h => h)) (some ⟨w2.heap.size, 0, none⟩) 1 1 [.slice A2 l.length c2] (fun k => k = w2.heap.size) rfl (by simp) (Nat.le_refl _) rfl (one_sees w2 _ _) (by simp [Value.oneCell']) (by omega) ?_; intro A' c' w' h1 h2 h3; have G1 := hid h1; have G2 := hid h2; have G3 := hid h3; clear h1 h2 h3)
      have hr1 : Chg (fun _ => False) w2 (w2.alloc (.cells #[.slice A2 l.length c2] 22)) := (Chg.refl (fun _ => False) w2).alloc _
      have hsz : w.heap.size ≤ w2.heap.size := Nat.le_trans HCH.out.size H2.out.size
      have hvl : ∀ k, (Value.slice Av done.length cv).ownBlock = some k → k < wr.heap.size := fun k hk => by
        obtain ⟨cells', b1, _⟩ := HAC.out
        exact own_lt b1 k hk
      have hacc2 : Acc BS 22 w w' (fun k => w.heap.size ≤ k) (.slice A' (done.length + 1) c') (done ++ [l]) := by
        refine Acc.snoc (v := .slice Av done.length cv) (w := w2.alloc (.cells #[.slice A2 l.length c2] 22)) (cs := [.slice A2 l.length c2]) (cells := cells) (Nat.le_trans hsz hr1.size) A2'.out ((A3'.out.chg hr1 (fun _ _ h => h)).mono (fun k hk => ⟨⟨hk.1.1, Nat.lt_of_lt_of_le hk.1.2 hr1.size⟩, hk.2⟩)) ?_ G1.out G2.out G3.out
        refine ⟨A2, l.length, c2, rfl, ((own_At H1.out rfl).chg hr1 (fun _ _ h => h)).mono (fun k hk => ?_)⟩
        have k1 := H3.out k hk
        have k2 := own_lt H1.out k hk
        have k3 := HCH.out.size
        have k4 := hr1.size
        exact ⟨⟨by omega, by omega⟩, fun h => by have := hvl k h; omega⟩
      have hch2 : Chg (fun _ => False) w w' := (HCH.out.trans (H2.out.trans hr1 (fun _ h _ => h)) (fun _ h _ => h)).trans G2.out (fun k hk hlt => by have := A2'.out k hk; omega)
      have hsc2 : FrameP.scan b = ((done ++ [l]) ++ (FrameP.scan (b.drop (u + (10 + l.length)))).1, u + (10 + l.length) + (FrameP.scan (b.drop (u + (10 + l.length)))).2) := by
        rw [HSC.out, FrameP.scan_ok HR.out, List.drop_drop]
        simp
        omega
      go_roundw
      case measure => simp [intOf]; omega
      case rel => first | exact ⟨done ++ [l], u + (10 + l.length), by omega, by simp; omega, by go_num, hacc2, hch2, hsc2⟩ | ((repeat apply Exists.intro); exact ⟨⟨done ++ [l], u + (10 + l.length), by omega, by simp; omega, by go_num, hacc2, hch2, hsc2⟩, rfl⟩)
    · have g1 : ((x : Int) != 0) = true := by rw [bne_iff_ne]; omega
      have E := hid (FrameP.scan_no HR.out hx)
      go_wp2_with fail
      go_ret2
      have hsc := HSC.out
      rw [E.out] at hsc
      refine ⟨Av, cv, ?_, ?_, HCH.out.trans H2.out (fun _ h _ => h)⟩
      · rw [hsc]; simp
      · rw [hsc]
        simp only [List.append_nil]
        exact HAC.out.chg H2.out (fun _ _ h => h) (fun _ _ _ _ h => h)

set_option maxHeartbeats 2000000 in
set_option maxRecDepth 100000 in
theorem refscan_any (A : Option Addr) (n c : Nat) (b : List UInt8) (S : Nat → Prop) (w : World) (h : Ty.At Ty.u8 w S A n c b) (hn : n ≤ 1048576) :
    Calls Try.prog 17 #[.slice A n c] w (Scanned (fun k => S k ∧ k < w.heap.size) b w) := by
  have H := hid h.bound
  have HN := hid h.1
  have HC := hid h.2.1
  clear h
  go_enter Try.func17, Try.ntmps17
  go_wp2
  go_loopw [4, 5] (fun v i wr => ∃ (done : List (List UInt8)) (u : Nat), u ≤ n ∧ done.length ≤ u ∧ i = .int .i64 u ∧ Acc BS 22 w wr (fun k => S k ∧ k < w.heap.size) v done ∧ Chg (fun _ => False) w wr ∧ FrameP.scan b = (done ++ (FrameP.scan (b.drop u)).1, u + (FrameP.scan (b.drop u)).2)) (fun _ i _ => n - (intOf i).toNat)
  case atStart => exact ⟨[], 0, Nat.zero_le _, Nat.zero_le _, rfl, Acc.nil _ _ _ _ _, Chg.refl _ _, by simp⟩
  case round =>
    obtain ⟨done, u, hu, hdu, rfl, hacc, hch, hscan⟩ := hrel
    have HAC := hid hacc
    have HCH := hid hch
    have HSC := hid hscan
    obtain ⟨Av, cv, hv⟩ := hacc.form
    subst hv
    obtain ⟨A1, c1, hcut, hat⟩ := Ty.At.from_ (P := Try.prog) (d := Ty.u8) Try.underlying22 info5 A n c u (n - u) u rfl hu rfl
    have HAT := hid hat
    obtain ⟨x, l, hr⟩ : ∃ x l, FrameP.read (b.drop u) = (x, l) := ⟨_, _, rfl⟩
    have HR := hid hr
    clear hacc hch hscan hat hr
    go_wp2_with fail
    refine (refread_any A1 (n - u) c1 (b.drop u) (fun k => S k ∧ k < w.heap.size) wr (HAT.out wr _ b (H.out.chg HCH.out (fun _ _ h => h)))).mono ?_
    rintro e w2 ⟨A2, c2, he, h1, h2⟩
    rw [HR.out] at he h1
    simp only at he h1
    subst he
    have H1 := hid h1
    have H2 := hid (show Chg (fun _ => False) wr w2 by obtain ⟨j, rfl⟩ := h2; exact (Chg.refl (fun _ => False) wr).drewN j)
    clear h1 h2
    by_cases hx : x = 0
    · subst hx
      have hl : 10 + l.length ≤ n - u := by have := (FrameP.read_len HR.out).1; rw [List.length_drop, ← HN.out] at this; omega
      have hw : IntKind.i64.wrap ((u : Int) + (10 + (l.length : Int))) = (u : Int) + (10 + (l.length : Int)) := IntWalk.i64_in _ (by omega)
      have hw2 : IntKind.i64.wrap (10 + (l.length : Int)) = 10 + (l.length : Int) := IntWalk.i64_in _ (by omega)
      obtain ⟨cells, a1, a2, a3⟩ := HAC.out.chg H2.out (fun _ _ h => h) (fun _ _ _ _ h => h)
      have A1' := hid a1
      have A2' := hid a2
      have A3' := hid a3
      clear a1 a2 a3
      go_wp2_with (at_builtin; refine app_list _ rfl (.tmp 19) (.tmp 21) 36 22 (.slice none 0 0) 1 24 rfl Try.underlying36 info22 rfl (by decide) (by decide) (.slice Av done.length cv) done.length cells rfl (((Chg.refl (fun _ => False) w2).alloc _).own A1'.out (fun _ _ h => h)) (some ⟨w2.heap.size, 0, none⟩) 1 1 [.slice A2 l.length c2] (fun k => k = w2.heap.size) rfl (by simp) (Nat.le_refl _) rfl (one_sees w2 _ _) (by simp [Value.oneCell']) (by omega) ?_; intro A' c' w' h1 h2 h3; have G1 := hid h1; have G2 := hid h2; have G3 := hid h3; clear h1 h2 h3)
      have hr1 : Chg (fun _ => False) w2 (w2.alloc (.cells #[.slice A2 l.length c2] 22)) := (Chg.refl (fun _ => False) w2).alloc _
      have hsz : w.heap.size ≤ w2.heap.size := Nat.le_trans HCH.out.size H2.out.size
      have hvl : ∀ k, (Value.slice Av done.length cv).ownBlock = some k → k < wr.heap.size := fun k hk => by
        obtain ⟨cells', b1, _⟩ := HAC.out
        exact own_lt b1 k hk
      have hacc2 : Acc BS 22 w w' (fun k => S k ∧ k < w.heap.size) (.slice A' (done.length + 1) c') (done ++ [l]) := by
        refine Acc.snoc (v := .slice Av done.length cv) (w := w2.alloc (.cells #[.slice A2 l.length c2] 22)) (cs := [.slice A2 l.length c2]) (cells := cells) (Nat.le_trans hsz hr1.size) A2'.out ((A3'.out.chg hr1 (fun _ _ h => h)).mono (fun k hk => ⟨⟨hk.1.1, Nat.lt_of_lt_of_le hk.1.2 hr1.size⟩, hk.2⟩)) ?_ G1.out G2.out G3.out
        refine ⟨A2, l.length, c2, rfl, (H1.out.chg (H2.out.trans hr1 (fun _ h _ => h)) (fun _ _ h => h)).mono (fun k hk => ?_)⟩
        have k4 := hr1.size
        exact ⟨⟨hk, by have := hk.2; omega⟩, fun h => by have := A2'.out k h; have := hk.2; omega⟩
      have hch2 : Chg (fun _ => False) w w' := (HCH.out.trans (H2.out.trans hr1 (fun _ h _ => h)) (fun _ h _ => h)).trans G2.out (fun k hk hlt => by have := A2'.out k hk; omega)
      have hsc2 : FrameP.scan b = ((done ++ [l]) ++ (FrameP.scan (b.drop (u + (10 + l.length)))).1, u + (10 + l.length) + (FrameP.scan (b.drop (u + (10 + l.length)))).2) := by
        rw [HSC.out, FrameP.scan_ok HR.out, List.drop_drop]
        simp
        omega
      go_roundw
      case measure => simp [intOf]; omega
      case rel => first | exact ⟨done ++ [l], u + (10 + l.length), by omega, by simp; omega, by go_num, hacc2, hch2, hsc2⟩ | ((repeat apply Exists.intro); exact ⟨⟨done ++ [l], u + (10 + l.length), by omega, by simp; omega, by go_num, hacc2, hch2, hsc2⟩, rfl⟩)
    · have g1 : ((x : Int) != 0) = true := by rw [bne_iff_ne]; omega
      have E := hid (FrameP.scan_no HR.out hx)
      go_wp2_with fail
      go_ret2
      have hsc := HSC.out
      rw [E.out] at hsc
      refine ⟨Av, cv, ?_, ?_, HCH.out.trans H2.out (fun _ h _ => h)⟩
      · rw [hsc]; simp
      · rw [hsc]
        simp only [List.append_nil]
        exact HAC.out.chg H2.out (fun _ _ h => h) (fun _ _ _ _ h => h)

end Go.Proofs.Ytodbaadcpgkbdaa.Fr
