/- The contracts of the laws' own words: same, ranges; the document's Normal, Has. -/
import Derived.Test.YtoojifcpjbakgaaClassU
namespace Go.Proofs.Ytoojifcpjbakgaa.Cl
set_option linter.unusedVariables false
set_option linter.unusedSimpArgs false
open Go.RowKit Go.Proofs.Ytoojifcpjbakgaa.C Go.Shelf
attribute [local go_sem] max2_int min2_int max_two min_two

theorem info33 : (Try.prog.info? 33).map (fun i => (i.zero, i.size, i.bytes)) = some (some (.agg #[.int .i64 0, .int .i64 0]), 2, 16) := by kernel_rfl

set_option maxHeartbeats 2000000 in
theorem ranges_any {S : Nat → Prop} {xs : List Rg} {w : World} {A : Option Addr} {n c : Nat} (hv : Ty.At rgK w S A n c xs) (hok : n ≤ 100000) :
    Calls Try.prog 13 #[.slice A n c] w fun e w' => ∃ B d, e = .returned (.slice B n d) ∧ Ty.At rgK w' (fun k => w.heap.size ≤ k) B n d xs ∧ Chg (fun _ => False) w w' := by
  have HV := hid hv
  have HL := hid hv.1
  have hn : (n : Int) ≤ 100000 := by omega
  clear hv
  go_enter Try.func13, Try.ntmps13
  go_wp2_with fail
  go_loopw [3, 8] (fun o i wr => ∃ k : Nat, k ≤ n ∧ i = .int .i64 k ∧ Vec rgK 33 wr (fun k => w.heap.size ≤ k) (fun _ => False) o (xs.take k) ∧ Chg (fun _ => False) w wr) (fun _ i _ => n - (intOf i).toNat)
  case atStart => exact ⟨0, Nat.zero_le _, rfl, Vec.nil _ _ _ _ _, Chg.refl _ _⟩
  case round =>
    obtain ⟨k, hk, rfl, hV, hC⟩ := hrel
    obtain ⟨A2, c2, rfl⟩ := hV.form
    have hkl : (xs.take k).length = k := by rw [List.length_take, ← HL.out]; omega
    rw [hkl] at hV ⊢
    have HKL := hid hkl
    have HV2 := hid hV
    have HC := hid hC
    clear hV hkl
    by_cases hlt : k < n
    · have hkx : k < xs.length := by rw [← HL.out]; exact hlt
      obtain ⟨b, rfl, hb, hwf, x0, x1⟩ := rg_at (HV.out.chg hC (fun _ _ h => h)) (List.getElem?_eq_getElem hkx)
      have HTK := hid (show xs.take (k + 1) = xs.take k ++ [xs[k]] from List.take_succ_eq_append_getElem hkx)
      generalize xs[k] = x at x0 x1 hwf HTK
      have HWF := hid (show x.wf from hwf)
      have C3 := hid (show Chg (fun _ => False) wr ((wr.alloc (.cells #[.int .i64 x.lo, .int .i64 x.hi] 46)).alloc (.cells #[.int .i64 x.lo, .int .i64 x.hi] 33)) from (chg_box _ _).alloc _)
      have SEE := hid (show Sees ((wr.alloc (.cells #[.int .i64 x.lo, .int .i64 x.hi] 46)).alloc (.cells #[.int .i64 x.lo, .int .i64 x.hi] 33)) (fun k => k = wr.heap.size + 1) (some ⟨wr.heap.size + 1, 0, none⟩) [.int .i64 x.lo, .int .i64 x.hi] by
        have q := new_sees (wr.alloc (.cells #[.int .i64 x.lo, .int .i64 x.hi] 46)) #[.int .i64 x.lo, .int .i64 x.hi] 33
        have e : (wr.alloc (.cells #[.int .i64 x.lo, .int .i64 x.hi] 46)).heap.size = wr.heap.size + 1 := by simp
        rw [e] at q
        exact q)
      have HBY := hid (show ((xs.take k).length + 1) * 16 ≤ 140737488355328 by rw [HKL.out]; omega)
      clear hwf hb hC hkx
      go_wp2_with (first | (at_builtin; refine vec_list (d := rgK) _ rfl (.tmp 12) (.tmp 14) 30 33 (.agg #[.int .i64 0, .int .i64 0]) 16 rfl Try.underlying30 info33 rfl (by decide) (by decide) (.slice A2 k c2) rfl (HV2.out.chg C3.out (fun _ _ h => h) (fun _ _ _ _ h => h)) (some ⟨wr.heap.size + 1, 0, none⟩) 1 1 (ys := [x]) rfl (by simp) (by omega) rfl SEE.out (Ty.Row.one_ (rg_shut HWF.out)) HBY.out ?_; rw [HKL.out]; intro A3 c3 w3 h3 h4; have H3 := hid h3; have H4 := hid (show Chg (fun j => (Value.slice A2 k c2).ownBlock = some j) wr w3 from (C3.out.mono (fun _ h _ => h.elim)).trans h4 (fun _ h _ => h)); clear h3 h4))
      have HM2 := hid (HC.out.trans H4.out (fun i hi hlt => by have q1 := HV2.out.inS i hi; omega))
      have HN := hid (show Vec rgK 33 w3 (fun k => w.heap.size ≤ k) (fun _ => False) (.slice A3 (k + 1) c3) (xs.take (k + 1)) by
        rw [HTK.out]
        exact H3.out.mono (fun j hj _ => by
          rcases hj with hj | hj
          · exact hj
          · have q1 := HC.out.size; have q2 := C3.out.size; omega) (fun j hj _ => hj))
      go_wp2_with fail
      go_roundw
      case measure => simp [intOf]; omega
      case rel => first | exact ⟨k + 1, by omega, by go_num, HN.out, HM2.out⟩ | ((repeat apply Exists.intro); exact ⟨⟨k + 1, by omega, by go_num, HN.out, HM2.out⟩, rfl⟩)
    · obtain rfl : k = n := by omega
      clear hC
      have HA := hid (show Ty.At rgK wr (fun k => w.heap.size ≤ k) A2 k c2 xs by
        have q := HV2.out.at
        rw [List.take_of_length_le (by rw [← HL.out]; exact Nat.le_refl _)] at q
        exact q.mono (fun j hj => by rcases hj with h | h; exact h; exact h.elim))
      go_wp2_with fail
      go_ret
      exact ⟨_, _, rfl, HA.out, HC.out⟩

set_option maxHeartbeats 2000000 in
theorem same_any {S T : Nat → Prop} {xs ys : List Rg} {w : World} {A B : Option Addr} {n c m d : Nat} (hx : Ty.At rgK w S A n c xs) (hy : Ty.At rgK w T B m d ys) (hok : n ≤ 100000) (hok2 : m ≤ 100000) :
    Calls Try.prog 12 #[.slice A n c, .slice B m d] w fun e w' => e = .returned (.bool (decide (xs = ys))) ∧ Chg (fun _ => False) w w' := by
  have HX := hid hx
  have HY := hid hy
  have LX := hid hx.1
  have LY := hid hy.1
  have hn : (n : Int) ≤ 100000 := by omega
  clear hx hy
  by_cases hnm : n = m
  · subst hnm
    go_enter Try.func12, Try.ntmps12
    go_wp2_with fail
    go_loopw [14] (fun i wr => ∃ k : Nat, k ≤ n ∧ i = .int .i64 k ∧ xs.take k = ys.take k ∧ Chg (fun _ => False) w wr) (fun i _ => n - (intOf i).toNat)
    case atStart => exact ⟨0, Nat.zero_le _, rfl, rfl, Chg.refl _ _⟩
    case round =>
      obtain ⟨k, hk, rfl, he, hC⟩ := hrel
      have HE := hid he
      have HC := hid hC
      clear he
      by_cases hlt : k < n
      · have hkx : k < xs.length := by rw [← LX.out]; exact hlt
        have hky : k < ys.length := by rw [← LY.out]; exact hlt
        obtain ⟨a, rfl, ha, hwf, x0, x1⟩ := rg_at (HX.out.chg hC (fun _ _ h => h)) (List.getElem?_eq_getElem hkx)
        obtain ⟨b, rfl, hb, hwfy, y0, y1⟩ := rg_at (HY.out.chg hC (fun _ _ h => h)) (List.getElem?_eq_getElem hky)
        have TX := hid (show xs.take (k + 1) = xs.take k ++ [xs[k]] from List.take_succ_eq_append_getElem hkx)
        have TY := hid (show ys.take (k + 1) = ys.take k ++ [ys[k]] from List.take_succ_eq_append_getElem hky)
        have NE := hid (show xs[k] ≠ ys[k] → xs ≠ ys from fun h e => h (by subst e; rfl))
        generalize xs[k] = x at x0 x1 TX NE
        generalize ys[k] = y at y0 y1 TY NE
        obtain ⟨W1, hW1⟩ : ∃ W1, W1 = wr.alloc (.cells #[.int .i64 x.lo, .int .i64 x.hi] 46) := ⟨_, rfl⟩
        have C0 := hid (show Chg (fun _ => False) wr W1 by rw [hW1]; exact chg_box _ _)
        have C1 := hid (hC.trans C0.out (fun _ h _ => h))
        have bx0 : W1.cell? ⟨wr.heap.size, 0, none⟩ = some (.int .i64 x.lo) := by rw [hW1]; exact box_lo
        have bx1 : W1.cell? ⟨wr.heap.size, 1, none⟩ = some (.int .i64 x.hi) := by rw [hW1]; exact box_hi
        have z0 := C0.out.cell y0 (fun h => h)
        have z1 := C0.out.cell y1 (fun h => h)
        clear ha hb hwf hwfy hC hkx hky y0 y1
        by_cases hxy : x = y
        · subst hxy
          have HN := hid (show xs.take (k + 1) = ys.take (k + 1) by rw [TX.out, TY.out, HE.out])
          go_wp2_with fail
          rw [← hW1]
          clear hW1
          go_region
          have C2 := hid (show Chg (fun _ => False) w W1.drew from C1.out.drew)
          go_wp2_with fail
          go_roundw
          case measure => simp [intOf]; omega
          case rel => first | exact ⟨k + 1, by omega, by go_num, HN.out, C2.out⟩ | ((repeat apply Exists.intro); exact ⟨⟨k + 1, by omega, by go_num, HN.out, C2.out⟩, rfl⟩)
        · have HN := hid (NE.out hxy)
          have hne : ¬ (x.lo = y.lo ∧ x.hi = y.hi) := fun h => hxy (by cases x; cases y; simp at h; rw [h.1, h.2])
          by_cases hlo : x.lo = y.lo
          · have hhi : ¬ x.hi = y.hi := fun h => hne ⟨hlo, h⟩
            have HLO := hid hlo
            clear hxy hne hlo
            have hW2 := hid hW1
            clear hW1
            go_wp2_with fail
            rw [← hW2.out]
            clear hW2
            have hlo := HLO.out
            go_region
            go_wp2_with fail
            go_ret
            exact ⟨by rw [decide_eq_false HN.out]; rfl, C1.out.drew⟩
          · clear hxy hne
            have hW2 := hid hW1
            clear hW1
            go_wp2_with fail
            rw [← hW2.out]
            clear hW2
            go_region
            go_wp2_with fail
            go_ret
            exact ⟨by rw [decide_eq_false HN.out]; rfl, C1.out.drew⟩
      · obtain rfl : k = n := by omega
        clear hC
        have HN := hid (show xs = ys by have q := HE.out; rw [List.take_of_length_le (by rw [← LX.out]; exact Nat.le_refl _), List.take_of_length_le (by rw [← LY.out]; exact Nat.le_refl _)] at q; exact q)
        go_wp2_with fail
        go_ret
        exact ⟨by rw [decide_eq_true HN.out]; rfl, HC.out⟩
  · have HN := hid (show ¬ xs = ys from fun h => hnm (by rw [LX.out, LY.out, h]))
    have hnm2 : ¬ (n : Int) = (m : Int) := by omega
    go_enter Try.func12, Try.ntmps12
    go_wp2_with fail
    go_ret
    exact ⟨by rw [decide_eq_false HN.out]; rfl, Chg.refl _ _⟩

set_option maxHeartbeats 2000000 in
theorem refhas_any {S : Nat → Prop} {xs : List Rg} {w : World} {A : Option Addr} {n c : Nat} (ask : Int) (hv : Ty.At rgK w S A n c xs) (hok : n ≤ 100000) :
    Calls Try.prog 18 #[.slice A n c, .int .i64 ask] w fun e w' => e = .returned (.bool (has xs ask)) ∧ w' = w := by
  have HV := hid hv
  have HL := hid hv.1
  have hn : (n : Int) ≤ 100000 := by omega
  clear hv
  go_enter Try.func18, Try.ntmps18
  go_wp2_with fail
  go_loopw [5] (fun i wr => ∃ k : Nat, k ≤ n ∧ i = .int .i64 k ∧ has xs ask = has (xs.drop k) ask ∧ w = wr) (fun i _ => n - (intOf i).toNat)
  case atStart => exact ⟨0, Nat.zero_le _, rfl, rfl, rfl⟩
  case round =>
    obtain ⟨k, hk, rfl, he, hww⟩ := hrel
    subst hww
    have HE := hid he
    clear he
    by_cases hlt : k < n
    · have hkx : k < xs.length := by rw [← HL.out]; exact hlt
      obtain ⟨a, rfl, ha, hwf, x0, x1⟩ := rg_at HV.out (List.getElem?_eq_getElem hkx)
      have HD := hid (show has xs ask = (xs[k].has ask || has (xs.drop (k + 1)) ask) by rw [HE.out, List.drop_eq_getElem_cons hkx, has_cons])
      generalize xs[k] = x at x0 x1 HD
      clear ha hwf hkx
      by_cases h1 : x.lo ≤ ask
      · by_cases h2 : ask ≤ x.hi
        · have HN := hid (show has xs ask = true by rw [HD.out, show x.has ask = true from decide_eq_true ⟨h1, h2⟩]; rfl)
          go_wp2_with fail
          go_ret
          exact ⟨by rw [HN.out]; rfl, rfl⟩
        · have HN := hid (show has xs ask = has (xs.drop (k + 1)) ask by rw [HD.out, show x.has ask = false from decide_eq_false (fun h => h2 h.2)]; rfl)
          go_wp2_with fail
          go_roundw
          case measure => simp [intOf]; omega
          case rel => first | exact ⟨k + 1, by omega, by go_num, HN.out, by first | rfl | trivial⟩ | ((repeat apply Exists.intro); exact ⟨⟨k + 1, by omega, by go_num, HN.out, by first | rfl | trivial⟩, rfl⟩)
      · have HN := hid (show has xs ask = has (xs.drop (k + 1)) ask by rw [HD.out, show x.has ask = false from decide_eq_false (fun h => h1 h.1)]; rfl)
        go_wp2_with fail
        go_roundw
        case measure => simp [intOf]; omega
        case rel => first | exact ⟨k + 1, by omega, by go_num, HN.out, by first | rfl | trivial⟩ | ((repeat apply Exists.intro); exact ⟨⟨k + 1, by omega, by go_num, HN.out, by first | rfl | trivial⟩, rfl⟩)
    · obtain rfl : k = n := by omega
      have HN := hid (show has xs ask = false by rw [HE.out, List.drop_eq_nil_of_le (by rw [← HL.out]; exact Nat.le_refl _)]; rfl)
      go_wp2_with fail
      go_ret
      exact ⟨by rw [HN.out]; rfl, rfl⟩
end Go.Proofs.Ytoojifcpjbakgaa.Cl
