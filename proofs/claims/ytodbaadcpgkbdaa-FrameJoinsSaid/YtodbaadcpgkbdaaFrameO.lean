/- frame.Scan again: the bodies that are told are rows of one's own, each in a block of its own. -/
import Derived.Test.YtodbaadcpgkbdaaFrameS
namespace Go.Proofs.Ytodbaadcpgkbdaa.Fr
set_option linter.unusedVariables false
set_option linter.unusedSimpArgs false
open Go.RowKit Go.Proofs.Ytodbaadcpgkbdaa.C
attribute [local go_sem] max2_int min2_int max_two min_two

theorem one_of_own {w : World} {base e size n : Nat} {v : Value} {xs : List Value} (h : w.ownsRow base e size v n xs) : v.oneCell' = true := by
  obtain ⟨A, c, rfl, _⟩ := own_sees h
  rfl
/-- Bytes in a row of one's own, and where it lies. -/
def Ob : Ty (List UInt8 × Value) where
  sz := 1
  K := fun w S x cs => cs = [x.2] ∧ w.ownsRow 0 5 1 x.2 x.1.length (u8s x.1) ∧ ∀ k, x.2.ownBlock = some k → S k
  len := fun h => by rw [h.1]; rfl
  one := fun h u hu => by rw [h.1] at hu; rw [List.mem_singleton.1 hu]; exact one_of_own h.2.1
  chg := fun h hc hd => ⟨h.1, hc.own h.2.1 (fun k hk => hd k (h.2.2 k hk)), h.2.2⟩
  mono := fun h hd => ⟨h.1, h.2.1, fun k hk => hd k (h.2.2 k hk)⟩
  bound := fun h => ⟨h.1, h.2.1, fun k hk => ⟨h.2.2 k hk, own_lt h.2.1 k hk⟩⟩
def Apart (xs : List (List UInt8 × Value)) : Prop := xs.Pairwise fun x y => ∀ k, x.2.ownBlock = some k → y.2.ownBlock ≠ some k
def ScannedO (b : List UInt8) (w : World) (e : Ending) (w' : World) : Prop :=
  ∃ A' c' xs, (FrameP.scan b).1 = xs.map Prod.fst ∧ e = .returned (.tuple #[.slice A' xs.length c', .int .i64 ((FrameP.scan b).2 : Int)]) ∧ Acc Ob 22 w w' (fun k => w.heap.size ≤ k) (.slice A' xs.length c') xs ∧ Apart xs ∧ Chg (fun _ => False) w w'

set_option maxHeartbeats 2000000 in
set_option maxRecDepth 100000 in
theorem scan_own (A : Option Addr) (n c : Nat) (b : List UInt8) (S : Nat → Prop) (w : World) (h : Ty.At Ty.u8 w S A n c b) (hn : n ≤ 1048576) :
    Calls Try.prog 16 #[.slice A n c] w (ScannedO b w) := by
  have H := hid h
  have HN := hid h.1
  have HC := hid h.2.1
  clear h
  go_enter Try.func16, Try.ntmps16
  go_wp2
  go_loopw [2, 3] (fun v i wr => ∃ (done : List (List UInt8 × Value)) (u : Nat), u ≤ n ∧ done.length ≤ u ∧ i = .int .i64 u ∧ Acc Ob 22 w wr (fun k => w.heap.size ≤ k) v done ∧ Chg (fun _ => False) w wr ∧ Apart done ∧ FrameP.scan b = (done.map Prod.fst ++ (FrameP.scan (b.drop u)).1, u + (FrameP.scan (b.drop u)).2)) (fun _ i _ => n - (intOf i).toNat)
  case atStart => exact ⟨[], 0, Nat.zero_le _, Nat.zero_le _, rfl, Acc.nil _ _ _ _ _, Chg.refl _ _, .nil, by simp⟩
  case round =>
    obtain ⟨done, u, hu, hdu, rfl, hacc, hch, hap, hscan⟩ := hrel
    have HAC := hid hacc
    have HCH := hid hch
    have HSC := hid hscan
    have HAP := hid hap
    obtain ⟨Av, cv, hv⟩ := hacc.form
    subst hv
    obtain ⟨A1, c1, hcut, hat⟩ := Ty.At.from_ (P := Try.prog) (d := Ty.u8) Try.underlying22 info5 A n c u (n - u) u rfl hu rfl
    have HAT := hid hat
    obtain ⟨x, l, hr⟩ : ∃ x l, FrameP.read (b.drop u) = (x, l) := ⟨_, _, rfl⟩
    have HR := hid hr
    clear hacc hch hscan hap hat hr
    go_wp2_with fail
    refine (read_any A1 (n - u) c1 (b.drop u) S wr (HAT.out wr S b (H.out.chg HCH.out (fun _ _ h => h)))).mono ?_
    rintro e w2 ⟨A2, c2, he, h1, h2, h3⟩
    obtain ⟨y, hy⟩ : ∃ y, y = sizeOf (b.drop u) := ⟨_, rfl⟩
    have HY := hid (show y = if x = 0 then 10 + l.length else 0 by rw [hy]; unfold sizeOf; rw [HR.out])
    rw [HR.out, ← hy] at he
    rw [HR.out] at h1 h3
    simp only at he h1 h3
    subst he
    have H1 := hid h1
    have H2 := hid h2
    have H3 := hid h3
    clear h1 h2 h3 hy
    by_cases hx : x = 0
    · subst hx
      obtain rfl : y = 10 + l.length := by have := HY.out; simpa using this
      have hl : 10 + l.length ≤ n - u := by have := (FrameP.read_len HR.out).1; rw [List.length_drop, ← HN.out] at this; omega
      have hw : IntKind.i64.wrap ((u : Int) + (10 + (l.length : Int))) = (u : Int) + (10 + (l.length : Int)) := IntWalk.i64_in _ (by omega)
      obtain ⟨cells, a1, a2, a3⟩ := HAC.out.chg H2.out (fun _ _ h => h) (fun _ _ _ _ h => h)
      have A1' := hid a1
      have A2' := hid a2
      have A3' := hid a3
      clear a1 a2 a3
      go_wp2_with (at_builtin; refine app_list _ rfl (.tmp 19) (.tmp 21) 36 22 (.slice none 0 0) 1 24 rfl Try.underlying36 info22 rfl (by decide) (by decide) (.slice Av done.length cv) done.length cells rfl (((Chg.refl (fun _ => False) w2).alloc _).own A1'.out (fun _ _ h => h)) (some ⟨w2.heap.size, 0, none⟩) 1 1 [.slice A2 l.length c2] (fun k => k = w2.heap.size) rfl (by simp) (Nat.le_refl _) rfl (one_sees w2 _ _) (by simp [Value.oneCell']) (by omega) ?_; intro A' c' w' h1 h2 h3; have G1 := hid h1; have G2 := hid h2; have G3 := hid h3; clear h1 h2 h3)
      have hr1 : Chg (fun _ => False) w2 (w2.alloc (.cells #[.slice A2 l.length c2] 22)) := (Chg.refl (fun _ => False) w2).alloc _
      have hsz : w.heap.size ≤ w2.heap.size := Nat.le_trans HCH.out.size H2.out.size
      have hvl : ∀ k, (Value.slice Av done.length cv).ownBlock = some k → k < wr.heap.size := fun k hk => by
        obtain ⟨cells', b1, _⟩ := HAC.out
        exact own_lt b1 k hk
      have hacc2 : Acc Ob 22 w w' (fun k => w.heap.size ≤ k) (.slice A' (done.length + 1) c') (done ++ [(l, Value.slice A2 l.length c2)]) := by
        refine Acc.snoc (v := .slice Av done.length cv) (w := w2.alloc (.cells #[.slice A2 l.length c2] 22)) (cs := [.slice A2 l.length c2]) (cells := cells) (Nat.le_trans hsz hr1.size) A2'.out ((A3'.out.chg hr1 (fun _ _ h => h)).mono (fun k hk => ⟨⟨hk.1.1, Nat.lt_of_lt_of_le hk.1.2 hr1.size⟩, hk.2⟩)) ?_ G1.out G2.out G3.out
        refine ⟨rfl, hr1.own H1.out (fun _ _ h => h), fun k hk => ?_⟩
        have k1 := H3.out k hk
        have k2 := own_lt H1.out k hk
        have k3 := HCH.out.size
        have k4 := hr1.size
        exact ⟨⟨by omega, by omega⟩, fun h => by have := hvl k h; omega⟩
      have hap2 : Apart (done ++ [(l, Value.slice A2 l.length c2)]) := by
        refine List.pairwise_append.2 ⟨HAP.out, List.pairwise_singleton _ _, fun x hx y hy k hk => ?_⟩
        rw [List.mem_singleton.1 hy]
        intro h
        have k1 := H3.out k h
        obtain ⟨cells', b1, b2, b3⟩ := HAC.out
        obtain ⟨i, hi⟩ := List.mem_iff_getElem?.1 hx
        have k2 := ((b3.2 i x hi).2.2 k hk).1.2
        omega
      have hch2 : Chg (fun _ => False) w w' := (HCH.out.trans (H2.out.trans hr1 (fun _ h _ => h)) (fun _ h _ => h)).trans G2.out (fun k hk hlt => by have := A2'.out k hk; omega)
      have hsc2 : FrameP.scan b = ((done ++ [(l, Value.slice A2 l.length c2)]).map Prod.fst ++ (FrameP.scan (b.drop (u + (10 + l.length)))).1, u + (10 + l.length) + (FrameP.scan (b.drop (u + (10 + l.length)))).2) := by
        rw [HSC.out, FrameP.scan_ok HR.out, List.drop_drop]
        simp
        omega
      go_roundw
      case measure => simp [intOf]; omega
      case rel => first | exact ⟨done ++ [(l, Value.slice A2 l.length c2)], u + (10 + l.length), by omega, by simp; omega, by go_num, hacc2, hch2, hap2, hsc2⟩ | ((repeat apply Exists.intro); exact ⟨⟨done ++ [(l, Value.slice A2 l.length c2)], u + (10 + l.length), by omega, by simp; omega, by go_num, hacc2, hch2, hap2, hsc2⟩, rfl⟩)
    · have g1 : ((x : Int) != 0) = true := by rw [bne_iff_ne]; omega
      have E := hid (FrameP.scan_no HR.out hx)
      go_wp2_with fail
      go_ret2
      have hsc := HSC.out
      rw [E.out] at hsc
      refine ⟨Av, cv, done, ?_, ?_, ?_, HAP.out, HCH.out.trans H2.out (fun _ h _ => h)⟩
      · rw [hsc]; simp
      · rw [hsc]; simp
      · exact HAC.out.chg H2.out (fun _ _ h => h) (fun _ _ _ _ h => h)

end Go.Proofs.Ytodbaadcpgkbdaa.Fr
