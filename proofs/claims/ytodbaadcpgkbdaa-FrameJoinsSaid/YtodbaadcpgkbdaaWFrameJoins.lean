/- The walk of the law FrameJoins. -/
import Derived.Test.YtodbaadcpgkbdaaWFrameScans
import Derived.Test.YtodbaadcpgkbdaaFrameC
import Derived.Test.YtodbaadcpgkbdaaFrameO
namespace Go.Proofs.Ytodbaadcpgkbdaa.Fr
set_option linter.unusedVariables false
set_option linter.unusedSimpArgs false
open Go.RowKit Go.Proofs.Ytodbaadcpgkbdaa.C
attribute [local go_sem] max2_int min2_int max_two min_two

set_option maxRecDepth 100000 in
theorem joins_out (w : World) (A B : Option Addr) (n c m d : Nat) (h : 20 < n ∨ 20 < m) :
    Calls Try.prog 8 #[.slice A n c, .slice B m d] w fun e w' => e = .returned (.bool true) ∧ Below w.heap.size w w' := by
  by_cases h1 : (20 : Int) < (n : Int)
  · clear h
    go_enter Try.func8, Try.ntmps8
    go_wp2_with fail
    refine (anchor_any w).mono ?_
    rintro e w1 ⟨rfl, hb1⟩
    go_wp2_with fail
    go_ret
    exact ⟨rfl, hb1⟩
  · have h2 : (20 : Int) < (m : Int) := by omega
    clear h
    go_enter Try.func8, Try.ntmps8
    go_wp2_with fail
    refine (anchor_any w).mono ?_
    rintro e w1 ⟨rfl, hb1⟩
    go_wp2_with fail
    go_ret
    exact ⟨rfl, hb1⟩

/-- What the first loops keep. -/
structure Joined (w wr : World) (M : List (List UInt8)) (va vw : Value) : Prop where
  all : wr.ownsRow 0 5 1 va (FrameP.flat M).length (u8s (FrameP.flat M))
  allN : ∀ j, va.ownBlock = some j → w.heap.size ≤ j
  want : Acc BS 22 w wr (fun k => k < w.heap.size) vw M
  below : Below w.heap.size w wr
  short : ∀ x ∈ M, x.length ≤ 300
  le : (FrameP.flat M).length ≤ 310 * M.length

theorem own_far {w : World} {b1 e1 s1 n1 b2 e2 s2 n2 : Nat} {v1 v2 : Value} {x1 x2 : List Value} (h1 : w.ownsRow b1 e1 s1 v1 n1 x1) (h2 : w.ownsRow b2 e2 s2 v2 n2 x2) (hne : e1 ≠ e2) (j : Nat) (hj : v1.ownBlock = some j) : v2.ownBlock ≠ some j := fun hk => by
  obtain ⟨u1, q1⟩ := own_type h1 j hj
  obtain ⟨u2, q2⟩ := own_type h2 j hk
  rw [q1] at q2
  injection q2 with q2
  injection q2 with _ q2 _
  exact hne q2

theorem Joined.grow {w wr w2 w3 w4 : World} {M : List (List UInt8)} {Av Aw A1 A3 A4 : Option Addr} {fl mM cv cw n1 c1 c3 c4 : Nat} {x : List UInt8} {cells : List Value}
    (h : Joined w wr M (.slice Av fl cv) (.slice Aw mM cw)) (hfl : fl = (FrameP.flat M).length) (hmM : mM = M.length) (hx : Ty.At Ty.u8 wr (fun k => k < w.heap.size) A1 n1 c1 x) (h300 : n1 ≤ 300) (h2 : Chg (fun _ => False) wr w2)
    (g1 : w3.ownsRow 0 5 1 (.slice A3 (fl + (10 + n1)) c3) (fl + (10 + n1)) (u8s (FrameP.flat M) ++ u8s (FrameP.frame x))) (g2 : Chg (fun k => (Value.slice Av fl cv).ownBlock = some k) w2 w3) (g3 : ∀ k, (Value.slice A3 (fl + (10 + n1)) c3).ownBlock = some k → (Value.slice Av fl cv).ownBlock = some k ∨ w2.heap.size ≤ k)
    (a1 : w3.ownsRow 0 22 1 (.slice Aw mM cw) mM cells) (a3 : Ty.Row BS w3 (fun k => (k < w.heap.size ∧ k < w3.heap.size) ∧ (Value.slice Aw mM cw).ownBlock ≠ some k) M cells)
    (k1 : w4.ownsRow 0 22 1 (.slice A4 (mM + 1) c4) (mM + 1) (cells ++ [.slice A1 n1 c1])) (k2 : Chg (fun k => (Value.slice Aw mM cw).ownBlock = some k) (w3.alloc (.cells #[.slice A1 n1 c1] 22)) w4) (k3 : ∀ k, (Value.slice A4 (mM + 1) c4).ownBlock = some k → (Value.slice Aw mM cw).ownBlock = some k ∨ (w3.alloc (.cells #[.slice A1 n1 c1] 22)).heap.size ≤ k) :
    Joined w w4 (M ++ [x]) (.slice A3 (fl + (10 + n1)) c3) (.slice A4 (mM + 1) c4) := by
  have s1 := h.below.size
  have s2 := h2.size
  have s3 := g2.size
  have al : Chg (fun _ => False) w3 (w3.alloc (.cells #[.slice A1 n1 c1] 22)) := (Chg.refl (fun _ => False) w3).alloc _
  have s4 := al.size
  obtain ⟨_, _, wn, _⟩ := h.want
  have q3 : ∀ j, (Value.slice A3 (fl + (10 + n1)) c3).ownBlock = some j → w.heap.size ≤ j := fun j hj => by
    rcases g3 j hj with h' | h'
    · exact h.allN j h'
    · omega
  have b3 : Below w.heap.size w w3 := h.below.trans ((h2.below s1 (fun _ h => h.elim)).trans (g2.below (by omega) (fun j hj => h.allN j hj)))
  have b4 : Below w.heap.size w w4 := b3.trans ((al.below (by omega) (fun _ h => h.elim)).trans (k2.below (by omega) (fun j hj => wn j hj)))
  have hfx : (FrameP.frame x).length = 10 + n1 := by rw [FrameP.frame_length, hx.1]
  have hf2 : (FrameP.flat (M ++ [x])).length = fl + (10 + n1) := by rw [FrameP.flat_snoc, List.length_append, hfx, hfl]
  refine ⟨?_, q3, ?_, b4, ?_, ?_⟩
  · have o4 := k2.own (al.own g1 (fun _ _ h => h)) (fun j hj he => own_far g1 a1 (by decide) j hj he)
    rw [hf2, FrameP.flat_snoc, u8s_append]
    exact o4
  · subst hmM
    refine Acc.snoc (v := .slice Aw M.length cw) (w := w3.alloc (.cells #[.slice A1 n1 c1] 22)) (cs := [.slice A1 n1 c1]) (cells := cells) (by omega) wn ((a3.chg al (fun _ _ h => h)).mono (fun k hk => ⟨⟨hk.1.1, Nat.lt_of_lt_of_le hk.1.2 s4⟩, hk.2⟩)) ?_ k1 k2 k3
    have c23 : Chg (fun k => w.heap.size ≤ k) wr w3 := Chg.trans (h2.mono (S' := fun k => w.heap.size ≤ k) (fun _ h _ => h.elim)) g2 (fun i hi _ => h.allN i hi)
    exact ⟨A1, n1, c1, rfl, (hx.chg (c23.alloc _) (fun k hk h' => by omega)).mono (fun k hk => ⟨⟨hk, by omega⟩, fun h' => by have := wn k h'; omega⟩)⟩
  · intro y hy
    rcases List.mem_append.1 hy with h' | h'
    · exact h.short y h'
    · rw [List.mem_singleton.1 h', ← hx.1]; exact h300
  · rw [hf2, List.length_append, List.length_singleton]
    have := h.le
    omega

set_option maxHeartbeats 8000000 in
set_option maxRecDepth 100000 in
theorem joins_in (w : World) (A B : Option Addr) (n c m d : Nat) (L1 L2 : List (List UInt8)) (h1 : Ty.At BS w (fun k => k < w.heap.size) A n c L1) (h2 : Ty.At BS w (fun k => k < w.heap.size) B m d L2) (hn : n ≤ 20) (hm : m ≤ 20) :
    Calls Try.prog 8 #[.slice A n c, .slice B m d] w fun e w' => e = .returned (.bool true) ∧ Below w.heap.size w w' := by
  have H1 := hid h1
  have H2 := hid h2
  have g1 : ¬ (20 : Int) < (n : Int) := by omega
  have g2 : ¬ (20 : Int) < (m : Int) := by omega
  have x0 : ∀ w : World, (Instr.index 41 (.agg #[.slice A n c, .slice B m d]) (.int .i64 0)).run Try.prog w = .ok (.slice A n c) w := fun _ => by kernel_rfl
  have x1 : ∀ w : World, (Instr.index 41 (.agg #[.slice A n c, .slice B m d]) (.int .i64 1)).run Try.prog w = .ok (.slice B m d) w := fun _ => by kernel_rfl
  clear h1 h2
  go_enter Try.func8, Try.ntmps8
  go_wp2_with fail
  refine (anchor_any w).mono ?_
  rintro e w1 ⟨rfl, hb1⟩
  have HB1 := hid hb1
  clear hb1
  go_wp2_with fail
  go_loopw [5, 6, 33] (fun va vw i wr => (i = .int .i64 0 ∧ Joined w wr [] va vw) ∨ (i = .int .i64 1 ∧ Joined w wr ([] ++ L1) va vw) ∨ (i = .int .i64 2 ∧ Joined w wr (([] ++ L1) ++ L2) va vw)) (fun _ _ i _ => 2 - (intOf i).toNat)
  case atStart => exact .inl ⟨rfl, ⟨own_nil _ _ _, fun j hj => by simp [Value.ownBlock] at hj, Acc.nil _ _ _ _ _, HB1.out, fun x hx => by simp at hx, by simp [FrameP.flat_nil]⟩⟩
  case round =>
    rcases hrel with ⟨rfl, hj⟩ | ⟨rfl, hj⟩ | ⟨rfl, hj⟩
    · have HJ := hid hj
      clear hj
      go_wp2_with fail
      go_loopw [5, 6, 38] (fun va vw i wr => ∃ k : Nat, k ≤ n ∧ i = .int .i64 k ∧ Joined w wr ([] ++ L1.take k) va vw) (fun _ _ i _ => n - (intOf i).toNat)
      case atStart => exact ⟨0, Nat.zero_le _, rfl, by rw [List.take_zero, List.append_nil]; exact HJ.out⟩
      case round =>
        obtain ⟨k, hk, rfl, hj⟩ := hrel
        obtain ⟨M, hM⟩ : ∃ M, M = [] ++ L1.take k := ⟨_, rfl⟩
        rw [← hM] at hj
        obtain ⟨Av, cv, hv, _⟩ := own_sees hj.all
        obtain ⟨Aw, cw, hvw⟩ := hj.want.form
        subst hv hvw
        obtain ⟨fl, hfl⟩ : ∃ fl, fl = (FrameP.flat M).length := ⟨_, rfl⟩
        obtain ⟨mM, hmM⟩ : ∃ mM, mM = M.length := ⟨_, rfl⟩
        have hmk : mM ≤ 40 := by rw [hmM, hM, List.length_append, List.length_take]; have h0 : ([] : List (List UInt8)).length ≤ 20 := (by have := H1.out.1; simp only [List.length_append, List.length_nil]; omega); have h1 := H1.out.1; omega
        have hle : fl ≤ 310 * mM := by rw [hfl, hmM]; exact hj.le
        rw [← hfl, ← hmM] at hj
        have HJ2 := hid hj
        have HF := hid hfl
        have HMM := hid hmM
        have HM := hid hM
        rw [← hfl, ← hmM]
        clear hj hfl hmM hM
        by_cases hlt : k < n
        · obtain ⟨x, hx⟩ : ∃ x, L1[k]? = some x := ⟨_, List.getElem?_eq_getElem (by have := H1.out.1; omega)⟩
          obtain ⟨a, A1, n1, c1, ha, _, hcell, hat⟩ := bs_at (H1.out.chg (Chg.of_below HJ2.out.below) (fun j hj h => by omega)) hx
          subst ha
          have HAT := hid hat
          have HTK := hid (show L1.take (k + 1) = L1.take k ++ [x] by
            have hl : k < L1.length := by have := H1.out.1; omega
            rw [List.take_succ_eq_append_getElem hl]
            rw [List.getElem?_eq_getElem hl] at hx
            injection hx with hx
            rw [hx])
          clear hat hx
          by_cases hbig : (300 : Int) < (n1 : Int)
          · go_wp2_with fail
            go_ret
            exact ⟨rfl, HJ2.out.below⟩
          have hn1 : n1 ≤ 300 := by omega
          go_wp2_with fail
          refine (make_any A1 n1 c1 x (fun k => k < w.heap.size) wr HAT.out (by omega)).mono ?_
          rintro e w2 ⟨A2, c2, rfl, h2⟩
          have M2 := hid h2
          have T2 := hid (own_At h2.1 (show (FrameP.frame x).length = 10 + n1 by rw [FrameP.frame_length, HAT.out.1]))
          have O2 := hid (show w2.ownsRow 0 5 1 (.slice Av fl cv) fl (u8s (FrameP.flat M)) by have := h2.2.1.own HJ2.out.all (fun _ _ h => h); rwa [← HF.out] at this)
          obtain ⟨cells, a1, a2, a3⟩ := HJ2.out.want.chg h2.2.1 (fun _ _ h => h) (fun _ _ _ _ h => h)
          rw [← HMM.out] at a1
          have A1' := hid a1
          have A2' := hid a2
          have A3' := hid a3
          clear h2 a1 a2 a3
          go_wp2_with (first
            | ((with_reducible refine at_dst (N := 54) rfl ?_)
               refine app_list _ rfl (.tmp 52) (.tmp 53) 22 5 (.int .u8 0) 1 1 rfl Try.underlying22 info5 rfl (by decide) (by decide) (.slice Av fl cv) fl _ rfl O2.out A2 (10 + n1) c2 (u8s (FrameP.frame x)) _ rfl T2.out.2.2.2.1 T2.out.2.1 (by rw [u8s_length, FrameP.frame_length, HAT.out.1]; omega) T2.out.bytes (u8s_one _) (by omega) ?_
               intro A3 c3 w3 h1 h2 h3
               have G1 := hid h1
               have G2 := hid h2
               have G3 := hid h3
               have W3 := hid (h2.own A1'.out (fun j hj hva => own_far (e1 := 5) (e2 := 22) O2.out A1'.out (show (5 : Nat) ≠ 22 by decide) j hva hj))
               have R3 := hid ((A3'.out.chg h2 (fun j hj hva => Nat.lt_irrefl _ (Nat.lt_of_lt_of_le hj.1.1 (HJ2.out.allN j hva)))).mono (S' := fun k => (k < w.heap.size ∧ k < w3.heap.size) ∧ (Value.slice Aw mM cw).ownBlock ≠ some k) (fun j hj => ⟨⟨hj.1.1, Nat.lt_of_lt_of_le hj.1.2 h2.size⟩, hj.2⟩))
               clear h1 h2 h3)
            | ((with_reducible refine at_dst (N := 58) rfl ?_)
               refine app_list _ rfl (.tmp 55) (.tmp 57) 36 22 (.slice none 0 0) 1 24 rfl Try.underlying36 info22 rfl (by decide) (by decide) (.slice Aw mM cw) mM cells rfl (((Chg.refl (fun _ => False) w3).alloc _).own W3.out (fun _ _ h => h)) (some ⟨w3.heap.size, 0, none⟩) 1 1 [.slice A1 n1 c1] (fun k => k = w3.heap.size) rfl (by simp) (Nat.le_refl _) rfl (one_sees w3 _ _) (by simp [Value.oneCell']) (by omega) ?_
               intro A4 c4 w4 h1 h2 h3
               have K1 := hid h1
               have K2 := hid h2
               have K3 := hid h3
               clear h1 h2 h3))
          have hj2 := Joined.grow HJ2.out HF.out HMM.out HAT.out hn1 M2.out.2.1 G1.out G2.out G3.out W3.out R3.out K1.out K2.out K3.out
          rw [HM.out, List.append_assoc, ← HTK.out] at hj2
          go_roundw
          case measure => simp [intOf]; omega
          case rel => first | exact ⟨k + 1, by omega, by go_num, hj2⟩ | ((repeat apply Exists.intro); exact ⟨⟨k + 1, by omega, by go_num, hj2⟩, rfl⟩)
        · have hkn : L1.take k = L1 := List.take_of_length_le (by have := H1.out.1; omega)
          have hj3 := HJ2.out
          rw [HM.out, hkn] at hj3
          go_wp2_with fail
          go_roundw
          case measure => simp [intOf]
          case rel => first | exact .inr (.inl ⟨by go_num, hj3⟩) | ((repeat apply Exists.intro); exact ⟨.inr (.inl ⟨by go_num, hj3⟩), rfl⟩)

    · have HJ := hid hj
      clear hj
      go_wp2_with fail
      go_loopw [5, 6, 38] (fun va vw i wr => ∃ k : Nat, k ≤ m ∧ i = .int .i64 k ∧ Joined w wr (([] ++ L1) ++ L2.take k) va vw) (fun _ _ i _ => m - (intOf i).toNat)
      case atStart => exact ⟨0, Nat.zero_le _, rfl, by rw [List.take_zero, List.append_nil]; exact HJ.out⟩
      case round =>
        obtain ⟨k, hk, rfl, hj⟩ := hrel
        obtain ⟨M, hM⟩ : ∃ M, M = ([] ++ L1) ++ L2.take k := ⟨_, rfl⟩
        rw [← hM] at hj
        obtain ⟨Av, cv, hv, _⟩ := own_sees hj.all
        obtain ⟨Aw, cw, hvw⟩ := hj.want.form
        subst hv hvw
        obtain ⟨fl, hfl⟩ : ∃ fl, fl = (FrameP.flat M).length := ⟨_, rfl⟩
        obtain ⟨mM, hmM⟩ : ∃ mM, mM = M.length := ⟨_, rfl⟩
        have hmk : mM ≤ 40 := by rw [hmM, hM, List.length_append, List.length_take]; have h0 : (([] ++ L1) : List (List UInt8)).length ≤ 20 := (by have := H1.out.1; simp only [List.length_append, List.length_nil]; omega); have h1 := H2.out.1; omega
        have hle : fl ≤ 310 * mM := by rw [hfl, hmM]; exact hj.le
        rw [← hfl, ← hmM] at hj
        have HJ2 := hid hj
        have HF := hid hfl
        have HMM := hid hmM
        have HM := hid hM
        rw [← hfl, ← hmM]
        clear hj hfl hmM hM
        by_cases hlt : k < m
        · obtain ⟨x, hx⟩ : ∃ x, L2[k]? = some x := ⟨_, List.getElem?_eq_getElem (by have := H2.out.1; omega)⟩
          obtain ⟨a, A1, n1, c1, ha, _, hcell, hat⟩ := bs_at (H2.out.chg (Chg.of_below HJ2.out.below) (fun j hj h => by omega)) hx
          subst ha
          have HAT := hid hat
          have HTK := hid (show L2.take (k + 1) = L2.take k ++ [x] by
            have hl : k < L2.length := by have := H2.out.1; omega
            rw [List.take_succ_eq_append_getElem hl]
            rw [List.getElem?_eq_getElem hl] at hx
            injection hx with hx
            rw [hx])
          clear hat hx
          by_cases hbig : (300 : Int) < (n1 : Int)
          · go_wp2_with fail
            go_ret
            exact ⟨rfl, HJ2.out.below⟩
          have hn1 : n1 ≤ 300 := by omega
          go_wp2_with fail
          refine (make_any A1 n1 c1 x (fun k => k < w.heap.size) wr HAT.out (by omega)).mono ?_
          rintro e w2 ⟨A2, c2, rfl, h2⟩
          have M2 := hid h2
          have T2 := hid (own_At h2.1 (show (FrameP.frame x).length = 10 + n1 by rw [FrameP.frame_length, HAT.out.1]))
          have O2 := hid (show w2.ownsRow 0 5 1 (.slice Av fl cv) fl (u8s (FrameP.flat M)) by have := h2.2.1.own HJ2.out.all (fun _ _ h => h); rwa [← HF.out] at this)
          obtain ⟨cells, a1, a2, a3⟩ := HJ2.out.want.chg h2.2.1 (fun _ _ h => h) (fun _ _ _ _ h => h)
          rw [← HMM.out] at a1
          have A1' := hid a1
          have A2' := hid a2
          have A3' := hid a3
          clear h2 a1 a2 a3
          go_wp2_with (first
            | ((with_reducible refine at_dst (N := 54) rfl ?_)
               refine app_list _ rfl (.tmp 52) (.tmp 53) 22 5 (.int .u8 0) 1 1 rfl Try.underlying22 info5 rfl (by decide) (by decide) (.slice Av fl cv) fl _ rfl O2.out A2 (10 + n1) c2 (u8s (FrameP.frame x)) _ rfl T2.out.2.2.2.1 T2.out.2.1 (by rw [u8s_length, FrameP.frame_length, HAT.out.1]; omega) T2.out.bytes (u8s_one _) (by omega) ?_
               intro A3 c3 w3 h1 h2 h3
               have G1 := hid h1
               have G2 := hid h2
               have G3 := hid h3
               have W3 := hid (h2.own A1'.out (fun j hj hva => own_far (e1 := 5) (e2 := 22) O2.out A1'.out (show (5 : Nat) ≠ 22 by decide) j hva hj))
               have R3 := hid ((A3'.out.chg h2 (fun j hj hva => Nat.lt_irrefl _ (Nat.lt_of_lt_of_le hj.1.1 (HJ2.out.allN j hva)))).mono (S' := fun k => (k < w.heap.size ∧ k < w3.heap.size) ∧ (Value.slice Aw mM cw).ownBlock ≠ some k) (fun j hj => ⟨⟨hj.1.1, Nat.lt_of_lt_of_le hj.1.2 h2.size⟩, hj.2⟩))
               clear h1 h2 h3)
            | ((with_reducible refine at_dst (N := 58) rfl ?_)
               refine app_list _ rfl (.tmp 55) (.tmp 57) 36 22 (.slice none 0 0) 1 24 rfl Try.underlying36 info22 rfl (by decide) (by decide) (.slice Aw mM cw) mM cells rfl (((Chg.refl (fun _ => False) w3).alloc _).own W3.out (fun _ _ h => h)) (some ⟨w3.heap.size, 0, none⟩) 1 1 [.slice A1 n1 c1] (fun k => k = w3.heap.size) rfl (by simp) (Nat.le_refl _) rfl (one_sees w3 _ _) (by simp [Value.oneCell']) (by omega) ?_
               intro A4 c4 w4 h1 h2 h3
               have K1 := hid h1
               have K2 := hid h2
               have K3 := hid h3
               clear h1 h2 h3))
          have hj2 := Joined.grow HJ2.out HF.out HMM.out HAT.out hn1 M2.out.2.1 G1.out G2.out G3.out W3.out R3.out K1.out K2.out K3.out
          rw [HM.out, List.append_assoc, ← HTK.out] at hj2
          go_roundw
          case measure => simp [intOf]; omega
          case rel => first | exact ⟨k + 1, by omega, by go_num, hj2⟩ | ((repeat apply Exists.intro); exact ⟨⟨k + 1, by omega, by go_num, hj2⟩, rfl⟩)
        · have hkn : L2.take k = L2 := List.take_of_length_le (by have := H2.out.1; omega)
          have hj3 := HJ2.out
          rw [HM.out, hkn] at hj3
          go_wp2_with fail
          go_roundw
          case measure => simp [intOf]
          case rel => first | exact .inr (.inr ⟨by go_num, hj3⟩) | ((repeat apply Exists.intro); exact ⟨.inr (.inr ⟨by go_num, hj3⟩), rfl⟩)

    · have HJ := hid hj
      clear hj
      obtain ⟨w4, rfl⟩ : ∃ w4 : World, w4 = wr := ⟨_, rfl⟩
      obtain ⟨M, hM⟩ : ∃ M, M = ([] ++ L1) ++ L2 := ⟨_, rfl⟩
      have HJ2 := hid (show Joined w w4 M _ _ by rw [hM]; exact HJ.out)
      have hml : M.length ≤ 40 := by rw [hM, List.length_append, List.nil_append]; have q1 := H1.out.1; have q2 := H2.out.1; omega
      clear HJ hM
      obtain ⟨Av, cv, hv, _⟩ := own_sees HJ2.out.all
      obtain ⟨Aw, cw, hvw⟩ := HJ2.out.want.form
      subst hv hvw
      obtain ⟨fl, hfl⟩ : ∃ fl, fl = (FrameP.flat M).length := ⟨_, rfl⟩
      obtain ⟨mM, hmM⟩ : ∃ mM, mM = M.length := ⟨_, rfl⟩
      have hle : fl ≤ 310 * mM := by rw [hfl, hmM]; exact HJ2.out.le
      have hmk : mM ≤ 40 := by omega
      rw [← hfl, ← hmM] at HJ2 ⊢
      have HF := hid hfl
      have HMM := hid hmM
      have RS := hid (show FrameP.scan (FrameP.flat M) = (M, fl) by
        have h := FrameP.scan_frames M [] (fun x hx => by have := HJ2.out.short x hx; omega)
        rw [FrameP.scan_no FrameP.read_nil (by decide)] at h
        simp only [List.append_nil, Nat.add_zero] at h
        rw [hfl]
        exact h)
      have OA := hid (show w4.ownsRow 0 5 1 (.slice Av fl cv) fl (u8s (FrameP.flat M)) by have := HJ2.out.all; rwa [← HF.out] at this)
      clear hml hfl hmM
      go_wp2_with fail
      refine (scan_own Av fl cv (FrameP.flat M) _ w4 (own_At OA.out rfl) (by omega)).mono ?_
      rintro e w5 ⟨A5, c5, xs, hxs, he, hacc, hap, hch⟩
      rw [RS.out] at hxs he
      simp only at hxs he
      have hxl : xs.length = mM := by rw [HMM.out, hxs, List.length_map]
      rw [hxl] at he hacc
      subst he
      have HXS := hid hxs
      have HAC := hid hacc
      have HAP := hid hap
      have HCH := hid hch
      have HXL := hid hxl
      clear hxs hacc hap hch hxl
      obtain ⟨oc, o1, o2, o3⟩ := HAC.out
      rw [HXL.out] at o1
      have HIT := hid (show ∀ x ∈ xs, ∀ k, x.2.ownBlock = some k → w4.heap.size ≤ k ∧ (Value.slice A5 mM c5).ownBlock ≠ some k from fun x hx k hk => by
        obtain ⟨i, hi⟩ := List.mem_iff_getElem?.1 hx
        have h := (o3.2 i x hi).2.2 k hk
        exact ⟨h.1.1, h.2⟩)
      have O1 := hid o1
      have O3 := hid o3
      have TW := hid (HJ2.out.want.at rfl).bound
      have BW := hid HJ2.out.below
      have SH := hid HJ2.out.short
      clear o1 o2 o3 HJ2
      go_wp2_with fail
      go_loopw [79] (fun i wq => ∃ j : Nat, j ≤ mM ∧ i = .int .i64 j ∧ Chg (fun k => ∃ x ∈ xs.take j, x.2.ownBlock = some k) w5 wq) (fun i _ => mM - (intOf i).toNat)
      case atStart => exact ⟨0, Nat.zero_le _, rfl, Chg.refl _ _⟩
      case round =>
        obtain ⟨j, hj, rfl, hcq⟩ := hrel
        obtain ⟨wq, rfl⟩ : ∃ wq : World, wq = wr := ⟨_, rfl⟩
        have HCQ := hid hcq
        have hhit : ∀ k, (∃ x ∈ xs.take j, x.2.ownBlock = some k) → w4.heap.size ≤ k := fun k ⟨x, hx, hk⟩ => (HIT.out x (List.mem_of_mem_take hx) k hk).1
        have TQ := hid (show Ty.At BS wq (fun k => (w.heap.size ≤ k ∨ k < w.heap.size) ∧ k < w4.heap.size) (Aw) mM cw M from (TW.out.chg HCH.out (fun _ _ h => h)).chg hcq (fun k hk h => by have := hhit k h; have := hk.2; omega))
        have OQ := hid (show wq.ownsRow 0 5 1 (.slice Av fl cv) fl (u8s (FrameP.flat M)) from hcq.own (HCH.out.own OA.out (fun _ _ h => h)) (fun k hk h => by have := hhit k h; have := own_lt OA.out k hk; omega))
        have BQ := hid (show Below w.heap.size w wq from (BW.out.trans (HCH.out.below BW.out.size (fun _ h => h.elim))).trans (hcq.below (Nat.le_trans BW.out.size HCH.out.size) (fun k hk => Nat.le_trans BW.out.size (hhit k hk))))
        clear hcq
        by_cases hlt : j < mM
        · obtain ⟨x, hx⟩ : ∃ x, xs[j]? = some x := ⟨_, List.getElem?_eq_getElem (by have := HXL.out; omega)⟩
          obtain ⟨l, v⟩ := x
          obtain ⟨hcs, hown, hS⟩ := O3.out.2 j _ hx
          simp only at hcs hown hS
          obtain ⟨P, d2, hv, _⟩ := own_sees hown
          subst hv
          have hdrop : xs.drop j = (l, Value.slice P l.length d2) :: xs.drop (j + 1) := by
            have hl : j < xs.length := by have := HXL.out; omega
            rw [List.drop_eq_getElem_cons hl]
            rw [List.getElem?_eq_getElem hl] at hx
            injection hx with hx
            rw [hx]
          have hapart : ∀ k, (Value.slice P l.length d2).ownBlock = some k → ¬ ∃ x ∈ xs.take j, x.2.ownBlock = some k := fun k hk ⟨y, hy, hyk⟩ => by
            have h := HAP.out
            rw [Apart, ← List.take_append_drop j xs, List.pairwise_append] at h
            exact h.2.2 y hy _ (by rw [hdrop]; exact List.mem_cons_self ..) k hyk hk
          have hMj : M[j]? = some l := by rw [HXS.out, List.getElem?_map, hx]; rfl
          have hl300 : l.length ≤ 300 := SH.out l (List.mem_of_getElem? hMj)
          have OV := hid (show wq.ownsRow 0 5 1 (.slice P l.length d2) l.length (u8s l) from HCQ.out.own hown hapart)
          have OO := hid (show wq.ownsRow 0 22 1 (.slice A5 mM c5) mM oc from HCQ.out.own O1.out (fun k hk ⟨y, hy, hyk⟩ => (HIT.out y (List.mem_of_mem_take hy) k hyk).2 hk))
          obtain ⟨g5, hg5, _⟩ := own_form OO.out (by omega)
          subst hg5
          have hcell : wq.cell? ⟨g5, j, none⟩ = some (.slice P l.length d2) := by
            rw [OO.out.cellAt j (by omega)]
            have h0 := congrArg (·[0]?) hcs
            simpa [show Ob.sz = 1 from rfl] using h0
          obtain ⟨a2, P2, n2, e2, ha2, _, k2, q2⟩ := bs_at TQ.out hMj
          subst ha2
          have HDR := hid hdrop
          have HSP := hid hS
          have hs2 : ∀ j, (convert 22 9 (.slice P2 n2 e2)).run Try.prog (wq.drewN j) = .ok (.string (bstr l)) (wq.drewN j) := fun j => at_str (q2.chg ((Chg.refl (fun _ => False) wq).drewN j) (fun _ _ h => h))
          have hs3 : ∀ j, (convert 22 9 (.slice P l.length d2)).run Try.prog (wq.drewN j) = .ok (.string (bstr l)) (wq.drewN j) := fun j => at_str ((own_At OV.out rfl).chg ((Chg.refl (fun _ => False) wq).drewN j) (fun _ _ h => h))
          clear q2 hMj hapart hdrop hcs hown hS hx
          go_wp2_with fail
          go_quiet (fail)
          go_wp2_with fail
          clear hs2 hs3
          go_loopw [94] (fun i wz => ∃ t : Nat, t ≤ l.length ∧ i = .int .i64 t ∧ wz.ownsRow 0 5 1 (.slice P l.length d2) l.length (u8s (flip l t)) ∧ Chg (fun k => (Value.slice P l.length d2).ownBlock = some k) wq wz) (fun i _ => l.length - (intOf i).toNat)
          case atStart => exact ⟨0, Nat.zero_le _, rfl, by rw [flip_zero]; exact ((Chg.refl (fun _ => False) wq).drewN _).own OV.out (fun _ _ h => h), (Chg.refl _ wq).drewN _⟩
          case round =>
            obtain ⟨t, ht, rfl, ho, hcz⟩ := hrel
            have HO := hid ho
            have HCZ := hid hcz
            clear ho hcz
            by_cases hlt2 : t < l.length
            · obtain ⟨y, hy⟩ : ∃ y, l[t]? = some y := ⟨_, List.getElem?_eq_getElem hlt2⟩
              obtain ⟨gx, hgx, hgl⟩ := own_form HO.out (by omega)
              subst hgx
              obtain ⟨hcell2, hfree⟩ := own_u8 HO.out (flip_at hy)
              have HY := hid hy
              clear hy
              go_wp2_with fail
              go_roundw
              case measure => simp [intOf]; omega
              case rel =>
                rw [xor255]
                refine ⟨t + 1, by omega, by go_num, ?_, ?_⟩
                · rw [flip_succ HY.out]; exact own_u8_set HO.out t _
                · exact HCZ.out.trans ((Chg.refl (fun k => (Value.slice (some ⟨gx, 0, none⟩) l.length d2).ownBlock = some k) wr).set (p := ⟨gx, t, none⟩) (fun _ => rfl) _) (fun _ h _ => h)
            · have hcn : Chg (fun k => ∃ x ∈ xs.take (j + 1), x.2.ownBlock = some k) w5 wr := by
                have e1 : xs.take (j + 1) = xs.take j ++ [(l, Value.slice P l.length d2)] := by
                  rw [List.take_add, HDR.out]; rfl
                refine (HCQ.out.mono (fun k ⟨y, hy, hk⟩ _ => ⟨y, by rw [e1]; exact List.mem_append_left _ hy, hk⟩)).trans HCZ.out (fun k hk _ => ⟨_, by rw [e1]; exact List.mem_append_right _ (List.mem_singleton.2 rfl), hk⟩)
              have HCN := hid hcn
              clear hcn
              go_wp2_with fail
              go_roundw
              case measure => simp [intOf]; omega
              case rel => first | exact ⟨j + 1, by omega, by go_num, HCN.out⟩ | ((repeat apply Exists.intro); exact ⟨⟨j + 1, by omega, by go_num, HCN.out⟩, rfl⟩)
        · go_wp2_with fail
          refine (scan_any Av fl cv (FrameP.flat M) _ wq (own_At OQ.out rfl) (by omega)).mono ?_
          rintro e w6 ⟨A6, c6, he, hacc6, hc6⟩
          rw [RS.out] at he hacc6
          simp only [← HMM.out] at he hacc6
          subst he
          have T6 := hid (hacc6.at rfl)
          have T7 := hid (TQ.out.chg hc6 (fun _ _ h => h))
          have B6 := hid (BQ.out.trans (hc6.below BQ.out.size (fun _ h => h.elim)))
          clear hacc6 hc6
          by_cases hm0 : mM = 0
          · subst hm0
            go_wp2_with fail
            go_quiet (fail)
            go_wp2_with fail
            go_ret
            exact ⟨rfl, below_drewN B6.out _⟩
          · obtain ⟨l, hl⟩ : ∃ l, M[0]? = some l := ⟨_, List.getElem?_eq_getElem (by have := HMM.out; omega)⟩
            obtain ⟨a2, P2, n2, e2, ha2, _, k2, q2⟩ := bs_at T6.out hl
            obtain ⟨a3, P3, n3, e3, ha3, _, k3, q3⟩ := bs_at T7.out hl
            subst ha2 ha3
            have hz : a2.add 0 = a2 := by simp [Addr.add]
            have hz3 : a3.add 0 = a3 := by simp [Addr.add]
            rw [hz] at k2
            rw [hz3] at k3
            have hpos : (0 : Int) < (mM : Int) := by omega
            have hposN : 0 < mM := by omega
            have hs2 : ∀ j, (convert 22 9 (.slice P2 n2 e2)).run Try.prog (w6.drewN j) = .ok (.string (bstr l)) (w6.drewN j) := fun j => at_str (q2.chg ((Chg.refl (fun _ => False) w6).drewN j) (fun _ _ h => h))
            have hs3 : ∀ j, (convert 22 9 (.slice P3 n3 e3)).run Try.prog (w6.drewN j) = .ok (.string (bstr l)) (w6.drewN j) := fun j => at_str (q3.chg ((Chg.refl (fun _ => False) w6).drewN j) (fun _ _ h => h))
            clear q2 q3 hl hz hz3
            go_wp2_with fail
            go_quiet (fail)
            go_wp2_with fail
            go_ret
            exact ⟨rfl, below_drewN B6.out _⟩

theorem FrameJoins_walk (w : World) (A : Option Addr) (n c : Nat) (L1 : List (List UInt8)) (h1 : Ty.At BS w (fun k => k < w.heap.size) A n c L1) (B : Option Addr) (m d : Nat) (L2 : List (List UInt8)) (h2 : Ty.At BS w (fun k => k < w.heap.size) B m d L2) :
    Calls Try.prog 8 #[.slice A n c, .slice B m d] w fun e w' => e = .returned (.bool true) ∧ Below w.heap.size w w' := by
  by_cases hd : 20 < n ∨ 20 < m
  · exact joins_out w A B n c m d hd
  · exact joins_in w A B n c m d L1 L2 h1 h2 (by omega) (by omega)
end Go.Proofs.Ytodbaadcpgkbdaa.Fr
