/- The contracts of slices.Concat, Or, And. -/
import Derived.Test.YtoojifcpjbakgaaClassE
namespace Go.Proofs.Ytoojifcpjbakgaa.Cl
set_option linter.unusedVariables false
set_option linter.unusedSimpArgs false
open Go.RowKit Go.Proofs.Ytoojifcpjbakgaa.C Go.Shelf
attribute [local go_sem] max2_int min2_int max_two min_two

theorem at_open {w : World} {S : Nat → Prop} {A : Option Addr} {n c : Nat} {xs : List Rg} (h : Ty.At rgK w S A n c xs) : n = xs.length ∧ n ≤ c ∧ (A = none → c = 0) ∧ Sees w S A (rgc xs) ∧ ∀ x ∈ xs, x.wf := by
  obtain ⟨h1, h2, h3, h4, cells, h5, h6⟩ := h
  obtain ⟨rfl, hw⟩ := row_rgc h6
  exact ⟨h1, h2, h4, h5, hw⟩
/-- The two lists, as far as they are done. -/
def two (xs ys : List Rg) : Nat → List Rg
  | 0 => []
  | 1 => xs
  | _ => xs ++ ys

set_option maxHeartbeats 4000000 in
theorem concat_any {S T : Nat → Prop} {xs ys : List Rg} {w : World} {A B : Option Addr} {n c m d b : Nat} (hx : Ty.At rgK w S A n c xs) (hy : Ty.At rgK w T B m d ys) (hok : n ≤ 100000) (hok2 : m ≤ 100000) (h0 : w.cell? ⟨b, 0, none⟩ = some (.slice A n c)) (h1 : w.cell? ⟨b, 1, none⟩ = some (.slice B m d)) :
    Calls Try.prog 35 #[.slice (some ⟨b, 0, none⟩) 2 2] w (OwnSet w fun q => q = xs ++ ys) := by
  have HX := hid hx
  have HY := hid hy
  have HLX := hid hx.1
  have HLY := hid hy.1
  have hn : (n : Int) ≤ 100000 := by omega
  have hm : (m : Int) ≤ 100000 := by omega
  have H0 := hid h0
  have H1 := hid h1
  clear hx hy
  go_enter Try.func35, Try.ntmps35
  go_wp2_with fail
  go_loopw [3, 11] (fun s i wr => ∃ (k : Nat) (z : Int), k ≤ 2 ∧ i = .int .i64 k ∧ s = .int .i64 z ∧ (k = 0 → z = 0) ∧ (k = 1 → z = (n : Int)) ∧ (k = 2 → z = (n : Int) + (m : Int)) ∧ wr = w) (fun _ i _ => 2 - (intOf i).toNat)
  case atStart => exact ⟨0, 0, by omega, rfl, rfl, fun _ => rfl, fun h => by omega, fun h => by omega, by first | rfl | trivial⟩
  case round =>
    obtain ⟨k, z, hk, rfl, rfl, z0, z1, z2, hww⟩ := hrel
    have hww := hww.symm
    subst hww
    rcases (show k = 0 ∨ k = 1 ∨ k = 2 by omega) with rfl | rfl | rfl
    · obtain rfl := z0 rfl
      clear z0 z1 z2
      go_wp2_with fail
      go_roundw
      case measure => simp [intOf]
      case rel => first | exact ⟨1, (n : Int), by omega, by go_num, by go_num, fun h => by omega, fun h => by omega, fun h => by omega, by first | rfl | trivial⟩ | ((repeat apply Exists.intro); exact ⟨⟨1, (n : Int), by omega, by go_num, by go_num, fun h => by omega, fun h => by omega, fun h => by omega, by first | rfl | trivial⟩, rfl⟩)
    · obtain rfl := z1 rfl
      clear z0 z1 z2
      go_wp2_with fail
      go_roundw
      case measure => simp [intOf]
      case rel => first | exact ⟨2, (n : Int) + (m : Int), by omega, by go_num, by go_num, fun h => by omega, fun h => by omega, fun h => by omega, by first | rfl | trivial⟩ | ((repeat apply Exists.intro); exact ⟨⟨2, (n : Int) + (m : Int), by omega, by go_num, by go_num, fun h => by omega, fun h => by omega, fun h => by omega, by first | rfl | trivial⟩, rfl⟩)
    · obtain rfl := z2 rfl
      clear z0 z1 z2
      have hnm : ((n + m : Nat) : Int) = (n : Int) + (m : Int) := by omega
      rw [← hnm]
      have G := hid (grow_nil (n + m) w (by omega))
      generalize n + m = nm at G hnm ⊢
      clear hnm h0 h1
      go_wp2_with fail
      refine G.out.mono ?_
      rintro e w2 ⟨A', c', rfl, h2, h3⟩
      have H2 := hid h2
      have H3 := hid h3
      clear h2 h3
      go_wp2_with fail
      go_loopw [6, 27] (fun o i wr2 => ∃ (k : Nat), k ≤ 2 ∧ i = .int .i64 k ∧ Vec rgK 46 wr2 (fun k => w.heap.size ≤ k) (fun _ => False) o (two xs ys k) ∧ Chg (fun _ => False) w wr2) (fun _ i _ => 2 - (intOf i).toNat)
      case atStart => exact ⟨0, by omega, rfl, H2.out, H3.out⟩
      case round =>
        obtain ⟨k, hk, rfl, hV, hC⟩ := hrel
        have HV := hid hV
        have HC := hid hC
        have h0 := hC.cell H0.out (fun h => h)
        have h1 := hC.cell H1.out (fun h => h)
        rcases (show k = 0 ∨ k = 1 ∨ k = 2 by omega) with rfl | rfl | rfl
        · obtain ⟨A2, c2, rfl⟩ := hV.form
          obtain ⟨q1, q2, q3, q4, q5⟩ := at_open (HX.out.chg hC (fun _ _ h => h))
          have Q4 := hid q4
          have Q5 := hid q5
          have Q3 := hid q3
          clear hV hC q4 q5 q3 q1
          change Hid (Vec rgK 46 _ _ _ (.slice A2 0 c2) []) at HV
          go_wp2_with (first | (at_builtin; refine vec_list (d := rgK) _ rfl (.tmp 31) (.tmp 32) 24 46 (.agg #[.int .i64 0, .int .i64 0]) 16 rfl Try.underlying24 info46 rfl (by decide) (by decide) (.slice A2 0 c2) rfl HV.out A n c (ys := xs) rfl Q3.out q2 HLX.out Q4.out (rgc_row Q5.out) (by simp; omega) ?_; simp only [List.length_nil, Nat.zero_add, List.nil_append]; intro A3 c3 w3 h3 h4; have H3 := hid h3; have H4 := hid h4; clear h3 h4))
          have HM2 := hid (HC.out.trans H4.out (fun i hi hlt => by have q1 := HV.out.inS i hi; omega))
          have HN := hid (show Vec rgK 46 w3 (fun k => w.heap.size ≤ k) (fun _ => False) (.slice A3 n c3) (two xs ys 1) from H3.out.mono (fun j hj _ => by
              rcases hj with hj | hj
              · exact hj
              · have q1 := HC.out.size; omega) (fun j hj _ => hj))
          go_wp2_with fail
          go_roundw
          case measure => simp [intOf]
          case rel => first | exact ⟨1, by omega, by go_num, HN.out, HM2.out⟩ | ((repeat apply Exists.intro); exact ⟨⟨1, by omega, by go_num, HN.out, HM2.out⟩, rfl⟩)
        · obtain ⟨A2, c2, rfl⟩ := hV.form
          obtain ⟨q1, q2, q3, q4, q5⟩ := at_open (HY.out.chg hC (fun _ _ h => h))
          have Q4 := hid q4
          have Q5 := hid q5
          have Q3 := hid q3
          clear hV hC q4 q5 q3 q1
          have e1 : (two xs ys 1).length = n := HLX.out.symm
          rw [e1] at HV ⊢
          have E1 := hid e1
          clear e1
          go_wp2_with (first | (at_builtin; refine vec_list (d := rgK) _ rfl (.tmp 31) (.tmp 32) 24 46 (.agg #[.int .i64 0, .int .i64 0]) 16 rfl Try.underlying24 info46 rfl (by decide) (by decide) (.slice A2 n c2) rfl HV.out B m d (ys := ys) rfl Q3.out q2 HLY.out Q4.out (rgc_row Q5.out) (by rw [E1.out]; omega) ?_; rw [E1.out]; intro A3 c3 w3 h3 h4; have H3 := hid h3; have H4 := hid h4; clear h3 h4))
          have HM2 := hid (HC.out.trans H4.out (fun i hi hlt => by have q1 := HV.out.inS i hi; omega))
          have HN := hid (show Vec rgK 46 w3 (fun k => w.heap.size ≤ k) (fun _ => False) (.slice A3 (n + m) c3) (two xs ys 2) from H3.out.mono (fun j hj _ => by
              rcases hj with hj | hj
              · exact hj
              · have q1 := HC.out.size; omega) (fun j hj _ => hj))
          go_wp2_with fail
          go_roundw
          case measure => simp [intOf]
          case rel => first | exact ⟨2, by omega, by go_num, HN.out, HM2.out⟩ | ((repeat apply Exists.intro); exact ⟨⟨2, by omega, by go_num, HN.out, HM2.out⟩, rfl⟩)
        · clear hV hC
          go_wp2_with fail
          go_ret
          exact ⟨_, _, rfl, rfl, HV.out, HC.out⟩
end Go.Proofs.Ytoojifcpjbakgaa.Cl
