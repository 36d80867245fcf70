/- The walk of the law FrameCuts. -/
import Derived.Test.YtodbaadcpgkbdaaWFrameScans
import Derived.Test.YtodbaadcpgkbdaaFrameC
namespace Go.Proofs.Ytodbaadcpgkbdaa.Fr
set_option linter.unusedVariables false
set_option linter.unusedSimpArgs false
open Go.RowKit Go.Proofs.Ytodbaadcpgkbdaa.C
attribute [local go_sem] max2_int min2_int max_two min_two

theorem info3 : (Try.prog.info? 3).map (fun i => (i.zero, i.size, i.bytes)) = some (some (.int .i64 0), 1, 8) := by kernel_rfl
def evals (L : List (List UInt8)) (k : Nat) : List Value := (List.range k).map fun i => .int .i64 ((FrameP.flat (L.take (i + 1))).length : Int)
theorem evals_succ (L : List (List UInt8)) (k : Nat) : evals L (k + 1) = evals L k ++ [.int .i64 ((FrameP.flat (L.take (k + 1))).length : Int)] := by simp [evals, List.range_succ]
theorem evals_get (L : List (List UInt8)) (k i : Nat) (h : i < k) : (evals L k)[i]? = some (.int .i64 ((FrameP.flat (L.take (i + 1))).length : Int)) := by simp [evals, h]

set_option maxRecDepth 100000 in
theorem cuts_out (w : World) (A : Option Addr) (n c : Nat) (cut : Int) (h : 30 < n ∨ cut < 0) :
    Calls Try.prog 7 #[.slice A n c, .int .i64 cut] w fun e w' => e = .returned (.bool true) ∧ Below w.heap.size w w' := by
  by_cases h1 : (30 : Int) < (n : Int)
  · clear h
    go_enter Try.func7, Try.ntmps7
    go_wp2_with fail
    refine (anchor_any w).mono ?_
    rintro e w1 ⟨rfl, hb1⟩
    go_wp2_with fail
    go_ret
    exact ⟨rfl, hb1⟩
  · have h2 : cut < 0 := by omega
    clear h
    go_enter Try.func7, Try.ntmps7
    go_wp2_with fail
    refine (anchor_any w).mono ?_
    rintro e w1 ⟨rfl, hb1⟩
    go_wp2_with fail
    go_ret
    exact ⟨rfl, hb1⟩

/-- What the first loop keeps. -/
structure Laid (w wr : World) (L : List (List UInt8)) (k : Nat) (va ve : Value) : Prop where
  all : wr.ownsRow 0 5 1 va (FrameP.flat (L.take k)).length (u8s (FrameP.flat (L.take k)))
  allN : ∀ j, va.ownBlock = some j → w.heap.size ≤ j
  ends : wr.ownsRow 0 3 1 ve k (evals L k)
  endsN : ∀ j, ve.ownBlock = some j → w.heap.size ≤ j
  below : Below w.heap.size w wr
  short : ∀ x ∈ L.take k, x.length ≤ 300
  le : (FrameP.flat (L.take k)).length ≤ 310 * k

set_option maxHeartbeats 4000000 in
set_option maxRecDepth 100000 in
theorem cuts_in (w : World) (A : Option Addr) (n c : Nat) (L : List (List UInt8)) (cut : Int) (h : Ty.At BS w (fun k => k < w.heap.size) A n c L) (hn : n ≤ 30) (hc0 : 0 ≤ cut) :
    Calls Try.prog 7 #[.slice A n c, .int .i64 cut] w fun e w' => e = .returned (.bool true) ∧ Below w.heap.size w w' := by
  have H := hid h
  have HN := hid h.1
  have g1 : ¬ (30 : Int) < (n : Int) := by omega
  have g2 : ¬ cut < 0 := by omega
  have HC0 := hid hc0
  clear h hc0
  go_enter Try.func7, Try.ntmps7
  go_wp2_with fail
  refine (anchor_any w).mono ?_
  rintro e w1 ⟨rfl, hb1⟩
  have HB1 := hid hb1
  clear hb1
  go_wp2_with fail
  go_loopw [5, 6, 27] (fun va ve i wr => ∃ k : Nat, k ≤ n ∧ i = .int .i64 k ∧ Laid w wr L k va ve) (fun _ _ i _ => n - (intOf i).toNat)
  case atStart => exact ⟨0, Nat.zero_le _, rfl, ⟨own_nil _ _ _, fun j hj => by simp [Value.ownBlock] at hj, own_nil _ _ _, fun j hj => by simp [Value.ownBlock] at hj, HB1.out, fun x hx => by simp at hx, by simp [FrameP.flat_nil]⟩⟩
  case round =>
    obtain ⟨k, hk, rfl, hlaid⟩ := hrel
    have HL := hid hlaid
    obtain ⟨Av, cv, hv, _⟩ := own_sees hlaid.all
    obtain ⟨Ae, ce, he, _⟩ := own_sees hlaid.ends
    subst hv he
    obtain ⟨fl, hfl⟩ : ∃ fl, fl = (FrameP.flat (L.take k)).length := ⟨_, rfl⟩
    have HF := hid hfl
    rw [← hfl] at HL ⊢
    have hle : fl ≤ 310 * k := by rw [hfl]; exact hlaid.le
    clear hlaid hfl
    by_cases hlt : k < n
    · obtain ⟨x, hx⟩ : ∃ x, L[k]? = some x := ⟨_, List.getElem?_eq_getElem (by have := HN.out; omega)⟩
      obtain ⟨a, A1, n1, c1, ha, _, hcell, hat⟩ := bs_at (H.out.chg (Chg.of_below HL.out.below) (fun j hj h => by omega)) hx
      subst ha
      have HAT := hid hat
      have HX := hid hx
      have htk : L.take (k + 1) = L.take k ++ [x] := by
        have hl : k < L.length := by have := HN.out; omega
        rw [List.take_succ_eq_append_getElem hl]
        rw [List.getElem?_eq_getElem hl] at hx
        injection hx with hx
        rw [hx]
      have HTK := hid htk
      clear hat hx htk
      by_cases hbig : (300 : Int) < (n1 : Int)
      · go_wp2_with fail
        go_ret
        exact ⟨rfl, HL.out.below⟩
      have hn1 : n1 ≤ 300 := by omega
      go_wp2_with fail
      refine (make_any A1 n1 c1 x (fun k => k < w.heap.size) wr HAT.out (by omega)).mono ?_
      rintro e w2 ⟨A2, c2, rfl, h2⟩
      have M2 := hid h2
      have T2 := hid (own_At h2.1 (show (FrameP.frame x).length = 10 + n1 by rw [FrameP.frame_length, HAT.out.1]))
      have O2 := hid (show w2.ownsRow 0 5 1 (.slice Av fl cv) fl (u8s (FrameP.flat (L.take k))) by have := h2.2.1.own HL.out.all (fun _ _ h => h); rwa [← HF.out] at this)
      have E2 := hid (h2.2.1.own HL.out.ends (fun _ _ h => h))
      obtain ⟨f2, hf2⟩ : ∃ f2, f2 = fl + (10 + n1) := ⟨_, rfl⟩
      have F2 := hid (show f2 = (FrameP.flat (L.take (k + 1))).length by rw [HTK.out, FrameP.flat_snoc, List.length_append, FrameP.frame_length, ← HAT.out.1, hf2, HF.out])
      have HFI := hid (show (fl : Int) + (10 + (n1 : Int)) = (f2 : Int) by omega)
      have hf2l : f2 ≤ 310 * (k + 1) := by omega
      clear h2
      go_wp2_with (first
        | ((with_reducible refine at_dst (N := 43) rfl ?_)
           refine app_list _ rfl (.tmp 41) (.tmp 42) 22 5 (.int .u8 0) 1 1 rfl Try.underlying22 info5 rfl (by decide) (by decide) (.slice Av fl cv) fl _ rfl O2.out A2 (10 + n1) c2 (u8s (FrameP.frame x)) _ rfl T2.out.2.2.2.1 T2.out.2.1 (by rw [u8s_length, FrameP.frame_length, HAT.out.1]; omega) T2.out.bytes (u8s_one _) (by omega) ?_
           intro A3 c3 w3 h1 h2 h3
           rw [← hf2] at h1 h3 ⊢
           have G1 := hid h1
           have G2 := hid h2
           have G3 := hid h3
           have E3 := hid (h2.own E2.out (fun j hj hva => by
             obtain ⟨u1, v1⟩ := own_type E2.out j hj
             obtain ⟨u2, v2⟩ := own_type O2.out j hva
             rw [v1] at v2
             injection v2 with v2
             injection v2 with _ v2 _
             exact absurd v2 (by decide)))
           clear h1 h2 h3)
        | ((with_reducible refine at_dst (N := 48) rfl ?_)
           refine app_list _ rfl (.tmp 44) (.tmp 47) 39 3 (.int .i64 0) 1 8 rfl Try.underlying39 info3 rfl (by decide) (by decide) (.slice Ae k ce) k (evals L k) rfl (((Chg.refl (fun _ => False) w3).alloc _).own E3.out (fun _ _ h => h)) (some ⟨w3.heap.size, 0, none⟩) 1 1 [.int .i64 ((fl : Int) + (10 + (n1 : Int)))] (fun k => k = w3.heap.size) rfl (by simp) (Nat.le_refl _) rfl (one_sees w3 _ _) (by simp [Value.oneCell']) (by omega) ?_
           intro A4 c4 w4 h1 h2 h3
           rw [HFI.out] at h1
           have K1 := hid h1
           have K2 := hid h2
           have K3 := hid h3
           clear h1 h2 h3))
      have hlaid : Laid w w4 L (k + 1) (.slice A3 f2 c3) (.slice A4 (k + 1) c4) := by
        have s1 := HL.out.below.size
        have s2 := M2.out.2.1.size
        have s3 := G2.out.size
        have al : Chg (fun _ => False) w3 (w3.alloc (.cells #[.int .i64 ((fl : Int) + (10 + (n1 : Int)))] 3)) := (Chg.refl (fun _ => False) w3).alloc _
        have q3 : ∀ j, (Value.slice A3 f2 c3).ownBlock = some j → w.heap.size ≤ j := fun j hj => by
          rcases G3.out j hj with h | h
          · exact HL.out.allN j h
          · omega
        have b3 : Below w.heap.size w w3 := HL.out.below.trans ((M2.out.2.1.below s1 (fun _ h => h.elim)).trans (G2.out.below (by omega) (fun j hj => HL.out.allN j hj)))
        have b4 : Below w.heap.size w w4 := b3.trans ((al.below (by omega) (fun _ h => h.elim)).trans (K2.out.below (Nat.le_trans (by omega) al.size) (fun j hj => HL.out.endsN j hj)))
        refine ⟨?_, q3, ?_, fun j hj => ?_, b4, ?_, ?_⟩
        · have o4 := K2.out.own (al.own G1.out (fun _ _ h => h)) (fun j hj he => by
            obtain ⟨u1, v1⟩ := own_type E3.out j he
            obtain ⟨u2, v2⟩ := own_type G1.out j hj
            rw [v1] at v2
            injection v2 with v2
            injection v2 with _ v2 _
            exact absurd v2 (by decide))
          rw [HTK.out, FrameP.flat_snoc, u8s_append]
          rw [HTK.out, FrameP.flat_snoc] at F2
          rw [← F2.out]
          exact o4
        · rw [evals_succ, ← F2.out]
          exact K1.out
        · rcases K3.out j hj with h | h
          · exact HL.out.endsN j h
          · have := al.size; omega
        · intro y hy
          rw [HTK.out] at hy
          rcases List.mem_append.1 hy with h | h
          · exact HL.out.short y h
          · rw [List.mem_singleton.1 h, ← HAT.out.1]; exact hn1
        · rw [← F2.out]; exact hf2l
      have hlaid2 := hlaid
      rw [hf2] at hlaid2
      go_roundw
      case measure => simp [intOf]; omega
      case rel => first | exact ⟨k + 1, by omega, by go_num, by first | exact hlaid | exact hlaid2⟩ | ((repeat apply Exists.intro); exact ⟨⟨k + 1, by omega, by go_num, by first | exact hlaid | exact hlaid2⟩, rfl⟩)
    · obtain rfl : n = k := by omega
      have hLk : L.take n = L := List.take_of_length_le (by have := HN.out; omega)
      obtain ⟨m, hm⟩ : ∃ m : Nat, cut % ((fl : Int) + 1) = (m : Int) := ⟨(cut % ((fl : Int) + 1)).toNat, by have := Int.emod_nonneg cut (show ((fl : Int) + 1) ≠ 0 by omega); omega⟩
      have hml : m ≤ fl := by have := Int.emod_lt_of_pos cut (show 0 < (fl : Int) + 1 by omega); omega
      have hz : ((fl : Int) + 1 == 0) = false := by rw [beq_eq_false_iff_ne]; omega
      have OA := hid (show wr.ownsRow 0 5 1 (.slice Av fl cv) fl (u8s (FrameP.flat (L.take n))) by have := HL.out.all; rwa [← HF.out] at this)
      have hfc : fl ≤ cv := (own_at OA.out).1
      obtain ⟨i5, hi5, _⟩ := info_parts info5
      have hcut := fun W : World => cut_to (P := Try.prog) 22 5 .i64 Try.underlying22 hi5 Av fl cv m (by omega) W
      have hfl2 : fl = (FrameP.flat L).length := by have := HF.out; rwa [hLk] at this
      have hshort : ∀ x ∈ L, x.length ≤ 65536 := fun x hx => by have := HL.out.short x (by rw [hLk]; exact hx); omega
      obtain ⟨q, hq, hsc, hq1, hq2⟩ := FrameP.scan_cut L m hshort (by omega)
      have AT := hid (show Ty.At Ty.u8 wr _ Av m cv ((FrameP.flat L).take m) by have := OA.out; rw [hLk] at this; exact (own_At this rfl).to_ hml)
      have OE := hid HL.out.ends
      have BW := hid HL.out.below
      have HSC := hid hsc
      obtain ⟨us, hus⟩ : ∃ us, us = (FrameP.flat (L.take q)).length := ⟨_, rfl⟩
      have HUS := hid hus
      rw [← hus] at hq1
      have HQ2 := hid hq2
      have HFL := hid hfl2
      clear hi5 hk hlt hsc hus hq2 hfl2 hshort hLk HL
      go_wp2_with fail
      refine (scan_any Av m cv _ _ wr AT.out (by omega)).mono ?_
      rintro e w5 ⟨A5, c5, he, h5, hc5⟩
      rw [HSC.out] at he h5
      have hlq : (L.take q).length = q := by rw [List.length_take]; omega
      simp only [hlq, ← HUS.out] at he h5
      subst he
      have T5 := hid (h5.at rfl)
      have B5 := hid (show Below w.heap.size w w5 from BW.out.trans (hc5.below BW.out.size (fun _ h => h.elim)))
      have E5 := hid (hc5.own OE.out (fun _ _ h => h))
      have I5 := hid (H.out.chg (Chg.of_below B5.out) (fun j hj h => by omega))
      clear h5 hc5 hlq
      rw [hm]
      go_wp2_with fail
      go_loopw [64] (fun i wr => ∃ j : Nat, j ≤ q ∧ i = .int .i64 j ∧ ∃ nn, wr = w5.drewN nn) (fun i _ => n - (intOf i).toNat)
      case atStart => exact ⟨0, Nat.zero_le _, rfl, 0, rfl⟩
      case round =>
        obtain ⟨j, hj, rfl, nn, rfl⟩ := hrel
        by_cases hlt : j < n
        · obtain ⟨ge, hge, _⟩ := own_form E5.out (by omega)
          subst hge
          obtain ⟨ej, hej⟩ : ∃ ej, ej = (FrameP.flat (L.take (j + 1))).length := ⟨_, rfl⟩
          have hcE : ∀ p, p < n → w5.cell? ⟨ge, p, none⟩ = some (.int .i64 ((FrameP.flat (L.take (p + 1))).length : Int)) := fun p hp => by
            rw [E5.out.cellAt p (by omega), evals_get L n p hp]
          have hc0 := hcE j hlt
          rw [← hej] at hc0
          by_cases hgt : m < ej
          · have hjq : j = q := by
              rcases Nat.lt_or_ge j q with h | h
              · exfalso
                have := FrameP.flat_take_le L (show j + 1 ≤ q by omega)
                rw [← hej, ← HUS.out] at this
                omega
              · omega
            subst hjq
            have hgt' : (m : Int) < (ej : Int) := by omega
            by_cases hj0 : j = 0
            · subst hj0
              have hu0 : us = 0 := by rw [HUS.out]; rfl
              subst hu0
              clear hcE hej
              go_wp2_with fail
              go_ret
              exact ⟨rfl, below_drewN B5.out _⟩
            · obtain ⟨p, rfl⟩ : ∃ p, j = p + 1 := ⟨j - 1, by omega⟩
              have hc1 := hcE p (by omega)
              rw [← HUS.out] at hc1
              clear hcE hej
              go_wp2_with fail
              go_ret
              exact ⟨rfl, below_drewN B5.out _⟩
          · have hjq : j < q := by
              rcases Nat.lt_or_ge j q with h | h
              · exact h
              · exfalso
                have hjq : j = q := by omega
                have := HQ2.out (by rw [← hjq, ← HN.out]; exact hlt)
                rw [← hjq, ← hej] at this
                omega
            have hgt' : ¬ (m : Int) < (ej : Int) := by omega
            obtain ⟨x, hx⟩ : ∃ x, L[j]? = some x := ⟨_, List.getElem?_eq_getElem (by have := HN.out; omega)⟩
            obtain ⟨a2, P2, n2, d2, ha2, _, k2, q2⟩ := bs_at I5.out hx
            obtain ⟨a3, P3, n3, d3, ha3, _, k3, q3⟩ := bs_at T5.out (show (L.take q)[j]? = some x by rw [List.getElem?_take, if_pos hjq]; exact hx)
            subst ha2 ha3
            have hs2 : ∀ j, (convert 22 9 (.slice P2 n2 d2)).run Try.prog (w5.drewN j) = .ok (.string (bstr x)) (w5.drewN j) := fun j => at_str (q2.chg ((Chg.refl (fun _ => False) w5).drewN j) (fun _ _ h => h))
            have hs3 : ∀ j, (convert 22 9 (.slice P3 n3 d3)).run Try.prog (w5.drewN j) = .ok (.string (bstr x)) (w5.drewN j) := fun j => at_str (q3.chg ((Chg.refl (fun _ => False) w5).drewN j) (fun _ _ h => h))
            have dq : decide (q ≤ j) = false := decide_eq_false (by omega)
            clear q2 q3 hx hcE hej
            go_wp2_with fail
            go_quiet (fail)
            go_wp2_with fail
            go_roundw
            case measure => simp [intOf]; omega
            case rel => first | exact ⟨j + 1, by omega, by go_num, _, rfl⟩ | ((repeat apply Exists.intro); exact ⟨⟨j + 1, by omega, by go_num, _, rfl⟩, rfl⟩)
        · have hqn : q = n := by have := HN.out; omega
          subst hqn
          have hue : us = fl := by rw [HUS.out, HFL.out, List.take_of_length_le (by have := HN.out; omega)]
          subst hue
          go_wp2_with fail
          go_ret
          exact ⟨rfl, below_drewN B5.out _⟩


theorem FrameCuts_walk (w : World) (A : Option Addr) (n c : Nat) (L : List (List UInt8)) (h : Ty.At BS w (fun k => k < w.heap.size) A n c L) (cut : Int) (hcut : (Lit.int .i64 cut).wf = true) :
    Calls Try.prog 7 #[.slice A n c, .int .i64 cut] w fun e w' => e = .returned (.bool true) ∧ Below w.heap.size w w' := by
  by_cases hd : 30 < n ∨ cut < 0
  · exact cuts_out w A n c cut hd
  · exact cuts_in w A n c L cut h (by omega) (by omega)
end Go.Proofs.Ytodbaadcpgkbdaa.Fr
