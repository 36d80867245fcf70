/- The walk of the law PostOrder. -/
import Derived.Test.YtmllakklhbmboaaPostL
import Derived.Test.YtmllakklhbmboaaTypesB
namespace Go.Proofs.Ytmllakklhbmboaa.C
open Go.RowKit
theorem opens43 : Opens Try.prog 43 (Ty.slice (Ty.slice Ty.u8)) := opens_slice Try.underlying43 (by kernel_rfl) opens22 (by decide)
end Go.Proofs.Ytmllakklhbmboaa.C
namespace Go.Proofs.Ytmllakklhbmboaa.Po
set_option linter.unusedVariables false
set_option linter.unusedSimpArgs false
open Go.RowKit Go.Proofs.Ytmllakklhbmboaa.C
attribute [local go_sem] max2_int min2_int max_two min_two

def pkFrom : Nat → List (List UInt8) → List Pk
  | _, [] => []
  | i, b :: l => ⟨i, 0, b⟩ :: pkFrom (i + 1) l
theorem pkFrom_snoc (b : List UInt8) : ∀ (l : List (List UInt8)) (i : Nat), pkFrom i (l ++ [b]) = pkFrom i l ++ [⟨((i + l.length : Nat) : Int), 0, b⟩]
  | [], i => rfl
  | a :: l, i => by
    show _ :: pkFrom (i + 1) (l ++ [b]) = _ :: (pkFrom (i + 1) l ++ _)
    rw [pkFrom_snoc b l (i + 1), List.length_cons]
    congr 4
    omega
theorem pkFrom_len : ∀ (l : List (List UInt8)) (i : Nat), (pkFrom i l).length = l.length
  | [], _ => rfl
  | _ :: l, i => by simp [pkFrom, pkFrom_len l]
theorem pkFrom_take (k : Nat) (b : List UInt8) (l : List (List UInt8)) : takeP (pkFrom k (b :: l)) 0 = (pkFrom (k + 1) l, some ⟨k, 0, b⟩) := rfl
theorem pkFrom_send {l : List (List UInt8)} {b : List UInt8} {k : Nat} (hk : l.length = k) (h : k ≤ 50) (hb : b.length ≤ 300) : sendP (pkFrom 0 l) ⟨k, 0, b⟩ = (pkFrom 0 (l ++ [b]), 0) := by
  unfold sendP
  rw [if_neg (by show ¬ 65546 < b.length; omega), if_neg (by rw [pkFrom_len]; omega), pkFrom_snoc, hk, Nat.zero_add]
theorem wf_small (k : Nat) (h : k ≤ 4096) : (Lit.int .i64 (k : Int)).wf = true := by
  simp [Lit.wf, IntKind.min, IntKind.max, IntKind.signed, IntKind.bits]
  omega

theorem order_out (w : World) (A : Option Addr) (n c : Nat) (h : 50 < n) :
    Calls Try.prog 6 #[.slice A n c] w fun e w' => e = .returned (.bool true) ∧ Below w.heap.size w w' := by
  have g : (50 : Int) < (n : Int) := by omega
  go_enter Try.func6, Try.ntmps6
  go_wp2_with fail
  refine (anchor_any w).mono ?_
  rintro e w1 ⟨rfl, hb1⟩
  go_wp2_with fail
  go_ret
  exact ⟨rfl, hb1⟩

set_option maxHeartbeats 8000000 in
set_option maxRecDepth 100000 in
theorem order_in (w : World) (A : Option Addr) (n c : Nat) (ls : List (List UInt8)) (ha : Ty.At (Ty.slice Ty.u8) w (fun k => k < w.heap.size) A n c ls) (h : n ≤ 50) :
    Calls Try.prog 6 #[.slice A n c] w fun e w' => e = .returned (.bool true) ∧ Below w.heap.size w w' := by
  have HA := hid ha
  have HN := hid ha.1
  have g : ¬ (50 : Int) < (n : Int) := by omega
  clear ha
  go_enter Try.func6, Try.ntmps6
  go_wp2_with fail
  refine (anchor_any w).mono ?_
  rintro e w1 ⟨rfl, hb1⟩
  have HB1 := hid hb1
  clear hb1
  go_wp2_with fail
  refine (lp_new w w1 (fun _ => False) HB1.out (fun _ h => h.elim)).mono ?_
  rintro e w2 ⟨rfl, h2, _⟩
  obtain ⟨tp, htp⟩ : ∃ tp, tp = w1.heap.size := ⟨_, rfl⟩
  rw [← htp] at h2 ⊢
  have H2 := hid h2
  clear h2 htp
  go_wp2_with fail
  go_loopw [20] (fun i wr => ∃ k : Nat, k ≤ n ∧ i = .int .i64 k ∧ LvP w wr (fun _ => False) tp (pkFrom 0 (ls.take k))) (fun i _ => n - (intOf i).toNat)
  case atStart => exact ⟨0, Nat.zero_le _, rfl, H2.out⟩
  case round =>
    obtain ⟨k, hk, rfl, hL⟩ := hrel
    have HL := hid hL
    clear hL
    by_cases hlt : k < n
    · have hkl : k < ls.length := by have := HN.out; omega
      obtain ⟨a, cs, ha, hSa, hK, hc⟩ := (HA.out.chg (Chg.of_below HL.out.below) (fun k hk h => by omega)).get (by decide) (List.getElem?_eq_getElem hkl)
      have HTK := hid (show ls.take (k + 1) = ls.take k ++ [ls[k]] from List.take_succ_eq_append_getElem hkl)
      have HTL := hid (show (ls.take k).length = k by rw [List.length_take]; omega)
      generalize ls[k] = b at hK HTK
      subst ha
      obtain ⟨A', m, c', rfl, hd⟩ := hK
      have c0 := hc 0 _ rfl
      simp only [show (Ty.slice Ty.u8).sz = 1 from rfl, Nat.add_zero, Nat.mul_one] at c0
      have HD := hid hd
      have HM := hid hd.1
      clear hd hc hSa
      by_cases hm : (300 : Int) < (m : Int)
      · go_wp2_with fail
        go_ret
        exact ⟨rfl, HL.out.below⟩
      · have HM3 := hid (show b.length ≤ 300 by have := HM.out; omega)
        go_wp2_with fail
        refine (lp_send ⟨k, 0, b⟩ HL.out ⟨wf_small k (by omega), rfl, HD.out⟩).mono ?_
        rintro e w3 ⟨rfl, h3, _⟩
        rw [pkFrom_send HTL.out (by omega) HM3.out, ← HTK.out] at h3
        rw [pkFrom_send HTL.out (by omega) HM3.out]
        have H3 := hid h3
        clear h3
        go_wp2_with fail
        go_roundw
        case measure => simp [intOf]; omega
        case rel => first | exact ⟨k + 1, by omega, by go_num, H3.out⟩ | ((repeat apply Exists.intro); exact ⟨⟨k + 1, by omega, by go_num, H3.out⟩, rfl⟩)
    · obtain rfl : k = n := by omega
      have HL2 := hid (show LvP w wr (fun _ => False) tp (pkFrom 0 (ls.drop 0)) by have := HL.out; rw [List.take_of_length_le (by have := HN.out; omega)] at this; exact this)
      clear HL
      go_wp2_with fail
      go_loopw [42] (fun i wr => ∃ j : Nat, j ≤ k ∧ i = .int .i64 j ∧ LvP w wr (fun _ => False) tp (pkFrom j (ls.drop j))) (fun i _ => k - (intOf i).toNat)
      case atStart => exact ⟨0, Nat.zero_le _, rfl, HL2.out⟩
      case round =>
        obtain ⟨j, hj, rfl, hL⟩ := hrel
        have HL := hid hL
        clear hL
        by_cases hlt : j < k
        · have hjl : j < ls.length := by have := HN.out; omega
          obtain ⟨a, cs, ha, hSa, hK, hc⟩ := (HA.out.chg (Chg.of_below HL.out.below) (fun k hk h => by omega)).get (by decide) (List.getElem?_eq_getElem hjl)
          have HTK := hid (show ls.drop j = ls[j] :: ls.drop (j + 1) from List.drop_eq_getElem_cons hjl)
          generalize ls[j] = b at hK HTK
          subst ha
          obtain ⟨A', m, c', rfl, hd⟩ := hK
          have c0 := hc 0 _ rfl
          simp only [show (Ty.slice Ty.u8).sz = 1 from rfl, Nat.add_zero, Nat.mul_one] at c0
          have HD := hid hd
          have HM := hid hd.1
          clear hd hc hSa
          have HL3 := hid (show LvP w wr (fun _ => False) tp (pkFrom j (b :: ls.drop (j + 1))) by rw [← HTK.out]; exact HL.out)
          go_wp2_with fail
          refine (lp_take 0 HL3.out).mono ?_
          rintro e w4 ⟨A4, n4, c4, rfl, hx, h4, hch⟩
          rw [pkFrom_take] at h4 hx ⊢
          have H4 := hid (h4.new ((Chg.refl _ w4).alloc (.cells #[.int .i64 j, .int .i64 0, .slice A4 n4 c4] 38)))
          have hs1 := str_run (P := Try.prog) (src := 22) (dst := 9) (e := 5) (l := b) Try.underlying22 Try.underlying5 Try.underlying9 hx.2.2.1 (hx.2.2.bytes.chg ((Chg.refl (fun _ => False) w4).alloc (.cells #[.int .i64 j, .int .i64 0, .slice A4 n4 c4] 38)) (fun _ _ h => h)) hx.2.2.2.2.2.1 hx.2.2.2.1
          have hs2 := str_run (P := Try.prog) (src := 22) (dst := 9) (e := 5) (l := b) Try.underlying22 Try.underlying5 Try.underlying9 HM.out ((HD.out.bytes.chg hch (fun k hk h => by omega)).chg ((Chg.refl (fun _ => False) w4).alloc (.cells #[.int .i64 j, .int .i64 0, .slice A4 n4 c4] 38)) (fun _ _ h => h)) HD.out.2.2.2.1 HD.out.2.1
          clear h4 hx hch
          go_wp2_with fail
          go_roundw
          case measure => simp [intOf]; omega
          case rel => first | exact ⟨j + 1, by omega, by go_num, H4.out⟩ | ((repeat apply Exists.intro); exact ⟨⟨j + 1, by omega, by go_num, H4.out⟩, rfl⟩)
        · obtain rfl : j = k := by omega
          have HL3 := hid (show LvP w wr (fun _ => False) tp [] by have := HL.out; rw [List.drop_eq_nil_of_le (by have := HN.out; omega)] at this; exact this)
          clear HL HL2
          go_wp2_with fail
          refine (lp_take 0 HL3.out).mono ?_
          rintro e w4 ⟨A4, n4, c4, rfl, hx, h4, hch⟩
          rw [show takeP [] 0 = ([], none) from rfl] at h4 ⊢
          have H4 := hid (h4.new ((Chg.refl _ w4).alloc (.cells #[.int .i64 0, .int .i64 0, .slice A4 n4 c4] 38)))
          clear h4 hx hch
          go_wp2_with fail
          refine (lp_len H4.out).mono ?_
          rintro e w6 ⟨rfl, rfl⟩
          go_wp2_with fail
          go_ret
          exact ⟨rfl, H4.out.below⟩
theorem PostOrder_walk (w : World) (A : Option Addr) (n c : Nat) (ls : List (List UInt8)) (ha : Ty.At (Ty.slice Ty.u8) w (fun k => k < w.heap.size) A n c ls) :
    Calls Try.prog 6 #[.slice A n c] w fun e w' => e = .returned (.bool true) ∧ Below w.heap.size w w' := by
  by_cases h : n ≤ 50
  · exact order_in w A n c ls ha h
  · exact order_out w A n c (by omega)
end Go.Proofs.Ytmllakklhbmboaa.Po
