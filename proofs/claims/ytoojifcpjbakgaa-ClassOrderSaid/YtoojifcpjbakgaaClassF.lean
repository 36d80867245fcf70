/- The contracts of slices.Clone, Fold, and the document's Edges. -/
import Derived.Test.YtoojifcpjbakgaaClassT
import Derived.Lib.LazyBuf
namespace Go.Proofs.Ytoojifcpjbakgaa.Cl
set_option linter.unusedVariables false
set_option linter.unusedSimpArgs false
open Go.RowKit Go.Proofs.Ytoojifcpjbakgaa.C Go.Shelf
attribute [local go_sem] max2_int min2_int max_two min_two

set_option maxHeartbeats 1000000 in
theorem clone_any {S : Nat → Prop} {xs : List Rg} {w : World} {A : Option Addr} {n c : Nat} (hv : Ty.At rgK w S A n c xs) (hok : n ≤ 100000) :
    Calls Try.prog 34 #[.slice A n c] w (OwnSet w fun q => q = xs) := by
  have HV := hid hv
  obtain ⟨q1, q2, q3, q4, q5⟩ := at_open hv
  have Q1 := hid q1
  have Q3 := hid q3
  have Q4 := hid q4
  have Q5 := hid q5
  clear hv q1 q3 q4 q5
  cases A with
  | none =>
    have hn : n = 0 := by have := Q3.out rfl; omega
    have hx : xs = [] := List.eq_nil_of_length_eq_zero (by rw [← Q1.out]; exact hn)
    have HX := hid hx
    have hc : c = 0 := Q3.out rfl
    clear hx Q1 Q3
    subst hn hc
    have e1 := fun w => run_eql_slice_nil (P := Try.prog) w 24 46 none 0 0 Try.underlying24
    go_enter Try.func34, Try.ntmps34
    go_wp2_with fail
    go_ret
    exact ⟨_, [], rfl, HX.out.symm, Vec.nil _ _ _ _ _, Chg.refl _ _⟩
  | some a =>
    have VN := hid (show Vec rgK 46 (w.alloc (.cells #[] 46)) (fun k => w.heap.size ≤ k) (fun _ => False) (.slice (some ⟨w.heap.size, 0, none⟩) 0 0) [] from ⟨[], ⟨by simp, .inr ⟨w.heap.size, 0, #[], rfl, Nat.zero_le _, blk_new w _, Nat.le_refl _, by simp [maxLen], by simp, by simp⟩⟩, fun k hk => by simp [Value.ownBlock] at hk; show w.heap.size ≤ k; omega, Ty.Row.nil _ _ _⟩)
    have C1 := hid (chg_box w (.cells #[] 46))
    have q4 := hid (Q4.out.chg C1.out (fun _ _ h => h))
    have e1 := fun w => run_eql_slice_nil (P := Try.prog) w 24 46 (some a) n c Try.underlying24
    go_enter Try.func34, Try.ntmps34
    go_wp2_with (first | (at_builtin; refine vec_list (d := rgK) _ rfl (.tmp 5) (.tmp 6) 24 46 (.agg #[.int .i64 0, .int .i64 0]) 16 rfl Try.underlying24 info46 rfl (by decide) (by decide) (.slice (some ⟨w.heap.size, 0, none⟩) 0 0) rfl VN.out (some a) n c (ys := xs) rfl Q3.out q2 Q1.out q4.out (rgc_row Q5.out) (by simp; omega) ?_; simp only [List.length_nil, Nat.zero_add, List.nil_append]; intro A3 c3 w3 h3 h4; have H3 := hid h3; have H4 := hid (show Chg (fun j => w.heap.size ≤ j) w w3 from (C1.out.mono (fun _ h _ => h.elim)).trans h4 (fun j hj hlt => by simp [Value.ownBlock] at hj; omega)); clear h3 h4))
    go_ret
    refine ⟨_, _, rfl, rfl, H3.out.mono (fun j hj _ => ?_) (fun j hj _ => hj), H4.out.mono (fun j hj hlt => ?_)⟩
    · rcases hj with hj | hj
      · exact hj
      · have := C1.out.size; omega
    · exact absurd hj (by omega)

/-- The letters' ranges that come to a set when it is folded. -/
def addK (xs : List Rg) : Nat → List Rg
  | 0 => []
  | k + 1 => addK xs k ++ (if has xs (65 + (k : Int)) || has xs (97 + (k : Int)) then [⟨65 + (k : Int), 65 + (k : Int)⟩, ⟨97 + (k : Int), 97 + (k : Int)⟩] else [])
theorem addK_len (xs : List Rg) : ∀ k, (addK xs k).length ≤ 2 * k
  | 0 => Nat.le_refl _
  | k + 1 => by
    have := addK_len xs k
    unfold addK
    split <;> simp <;> omega
theorem addK_right (xs : List Rg) : ∀ k, k ≤ 26 → ∀ x ∈ addK xs k, x.right = true
  | 0, _, x, h => by cases h
  | k + 1, hk, x, h => by
    unfold addK at h
    rcases List.mem_append.1 h with h | h
    · exact addK_right xs k (by omega) x h
    · split at h
      · simp at h
        rcases h with rfl | rfl <;> rw [right_iff] <;> simp <;> omega
      · cases h
theorem addK_has (xs : List Rg) (v : Int) : ∀ k, has (addK xs k) v = true ↔ ∃ j : Nat, j < k ∧ (has xs (65 + (j : Int)) || has xs (97 + (j : Int))) = true ∧ (v = 65 + (j : Int) ∨ v = 97 + (j : Int))
  | 0 => by simp [addK, has]
  | k + 1 => by
    have ih := addK_has xs v k
    unfold addK
    rw [has_append, Bool.or_eq_true, ih]
    constructor
    · rintro (⟨j, h1, h2, h3⟩ | h)
      · exact ⟨j, by omega, h2, h3⟩
      · split at h
        · rename_i hc
          refine ⟨k, by omega, hc, ?_⟩
          simp [has, Rg.has] at h
          omega
        · simp [has] at h
    · rintro ⟨j, h1, h2, h3⟩
      by_cases hj : j = k
      · subst hj
        right
        rw [if_pos h2]
        clear ih h2
        simp [has, Rg.has]
        rcases h3 with h3 | h3
        · exact .inl (by omega)
        · exact .inr (by omega)
      · exact .inl ⟨j, by omega, h2, h3⟩
theorem fold_has (xs : List Rg) (v : Int) : has (xs ++ addK xs 26) v = (has xs v || has xs (twin v)) := by
  rw [has_append, Bool.eq_iff_iff, Bool.or_eq_true, Bool.or_eq_true, addK_has]
  constructor
  · rintro (h | ⟨j, h1, h2, h3⟩)
    · exact .inl h
    · rw [Bool.or_eq_true] at h2
      unfold twin
      rcases h3 with rfl | rfl
      · rw [if_neg (by omega), if_pos (by omega)]
        rcases h2 with h | h
        · exact .inl h
        · exact .inr (by rw [show 65 + (j : Int) + 32 = 97 + (j : Int) by omega]; exact h)
      · rw [if_pos (by omega)]
        rcases h2 with h | h
        · exact .inr (by rw [show 97 + (j : Int) - 32 = 65 + (j : Int) by omega]; exact h)
        · exact .inl h
  · rintro (h | h)
    · exact .inl h
    · unfold twin at h
      split at h
      · refine .inr ⟨(v - 97).toNat, by omega, ?_, .inr (by omega)⟩
        rw [show (65 : Int) + ((v - 97).toNat : Int) = v - 32 by omega, h]
        rfl
      · split at h
        · refine .inr ⟨(v - 65).toNat, by omega, ?_, .inl (by omega)⟩
          rw [show (97 : Int) + ((v - 65).toNat : Int) = v + 32 by omega, h]
          simp
        · exact .inl h

set_option maxHeartbeats 4000000 in
theorem fold_ok {S : Nat → Prop} {xs : List Rg} {w : World} {A : Option Addr} {n c : Nat} (hv : Ty.At rgK w S A n c xs) (hok : n ≤ 50000) (hn : nrm xs = true) :
    Calls Try.prog 22 #[.slice A n c] w (OwnSetE 0 w fun q => nrm q = true ∧ (∀ u, has q u = (has xs u || has xs (twin u))) ∧ q.length ≤ n + 52) := by
  have HV := hid hv
  have HL := hid hv.1
  have HN := hid hn
  clear hv hn
  go_enter Try.func22, Try.ntmps22
  go_wp2_with fail
  refine (isnormal_any HV.out (by omega)).mono ?_
  rintro e w2 ⟨rfl, h2⟩
  have H2 := hid h2
  clear h2
  rw [HN.out]
  go_wp2_with fail
  refine (clone_any (HV.out.chg H2.out (fun _ _ h => h)) (by omega)).mono ?_
  rintro e w3 ⟨v, q, rfl, rfl, h3, h4⟩
  have H3 := hid (own_set_up h3 H2.out.size)
  have H4 := hid (H2.out.trans h4 (fun _ h _ => h))
  clear h3 h4
  go_wp2_with fail
  go_loopw [4, 5] (fun o u wr => ∃ k : Nat, k ≤ 26 ∧ u = .int .i32 (65 + (k : Int)) ∧ Vec rgK 46 wr (fun k => w.heap.size ≤ k) (fun _ => False) o (q ++ addK q k) ∧ Chg (fun _ => False) w wr) (fun _ u _ => 91 - (intOf u).toNat)
  case atStart => exact ⟨0, by omega, rfl, by simpa [addK] using H3.out, H4.out⟩
  case round =>
    obtain ⟨k, hk, rfl, hV, hC⟩ := hrel
    obtain ⟨A2, c2, rfl⟩ := hV.form
    obtain ⟨m, hm⟩ : ∃ m, m = (q ++ addK q k).length := ⟨_, rfl⟩
    rw [← hm] at hV ⊢
    have HM := hid hm
    have HV2 := hid hV
    have HC := hid hC
    have hmb : m ≤ n + 2 * k := by have := addK_len q k; rw [hm, List.length_append, ← HL.out]; omega
    have HMB := hid hmb
    clear hm hV hmb
    by_cases hlt : k < 26
    · have hu : (65 : Int) + (k : Int) ≤ 90 := by omega
      clear hC
      go_wp2_with fail
      refine (has_any (65 + (k : Int)) (HV.out.chg HC.out (fun _ _ h => h)) (by omega)).mono ?_
      rintro e w4 ⟨rfl, h4⟩
      have C4 := hid h4
      clear h4
      have K1 := hid (show addK q (k + 1) = addK q k ++ (if has q (65 + (k : Int)) || has q (97 + (k : Int)) then [⟨65 + (k : Int), 65 + (k : Int)⟩, ⟨97 + (k : Int), 97 + (k : Int)⟩] else []) from rfl)
      have HYES := hid (show (has q (65 + (k : Int)) || has q (97 + (k : Int))) = true → q ++ addK q (k + 1) = (q ++ addK q k) ++ [⟨65 + (k : Int), 65 + (k : Int)⟩, ⟨97 + (k : Int), 97 + (k : Int)⟩] from fun h => by rw [K1.out, if_pos h, List.append_assoc])
      have HNO := hid (show (has q (65 + (k : Int)) || has q (97 + (k : Int))) = false → q ++ addK q (k + 1) = q ++ addK q k from fun h => by rw [K1.out, if_neg (by rw [h]; simp), List.append_nil])
      have W1 := hid (show (⟨65 + (k : Int), 65 + (k : Int)⟩ : Rg).wf from ⟨int_wf (by show _ ≤ 65 + (k : Int); omega) (by show 65 + (k : Int) ≤ _; omega), int_wf (by show _ ≤ 65 + (k : Int); omega) (by show 65 + (k : Int) ≤ _; omega)⟩)
      have W2 := hid (show (⟨97 + (k : Int), 97 + (k : Int)⟩ : Rg).wf from ⟨int_wf (by show _ ≤ 97 + (k : Int); omega) (by show 97 + (k : Int) ≤ _; omega), int_wf (by show _ ≤ 97 + (k : Int); omega) (by show 97 + (k : Int) ≤ _; omega)⟩)
      have HBY := hid (show ((q ++ addK q k).length + 2) * 16 ≤ 140737488355328 by rw [← HM.out]; have := HMB.out; omega)
      have e97 : 65 + (k : Int) + 32 = 97 + (k : Int) := by omega
      clear K1
      cases ha : has q (65 + (k : Int))
      · have HA := hid ha
        clear ha
        go_wp2_with fail
        try rw [e97]
        refine (has_any (97 + (k : Int)) (HV.out.chg (HC.out.trans C4.out (fun _ h _ => h)) (fun _ _ h => h)) (by omega)).mono ?_
        rintro e w5 ⟨rfl, h5⟩
        have C5 := hid (C4.out.trans h5 (fun _ h _ => h))
        have HC5 := hid (HC.out.trans C5.out (fun _ h _ => h))
        clear h5
        cases hb : has q (97 + (k : Int))
        · have HQ := hid (HNO.out (by rw [HA.out, hb]; rfl))
          have HN2 := hid (show Vec rgK 46 w5 (fun k => w.heap.size ≤ k) (fun _ => False) (.slice A2 m c2) (q ++ addK q (k + 1)) by rw [HQ.out]; exact HV2.out.chg C5.out (fun _ _ h => h) (fun _ _ _ _ h => h))
          clear hb
          go_wp2_with fail
          go_roundw
          case measure => simp [intOf]; omega
          case rel => first | exact ⟨k + 1, by omega, by go_num, HN2.out, HC5.out⟩ | ((repeat apply Exists.intro); exact ⟨⟨k + 1, by omega, by go_num, HN2.out, HC5.out⟩, rfl⟩)
        · have HQ := hid (HYES.out (by rw [HA.out, hb]; rfl))
          clear hb
          have SEE := hid (show Sees (w5.alloc (.cells #[.int .i64 (65 + (k : Int)), .int .i64 (65 + (k : Int)), .int .i64 (97 + (k : Int)), .int .i64 (97 + (k : Int))] 46)) (fun k => k = w5.heap.size) (some ⟨w5.heap.size, 0, none⟩) [.int .i64 (65 + (k : Int)), .int .i64 (65 + (k : Int)), .int .i64 (97 + (k : Int)), .int .i64 (97 + (k : Int))] from new_sees w5 _ 46)
          have ROW := hid (show Ty.Row rgK (w5.alloc (.cells #[.int .i64 (65 + (k : Int)), .int .i64 (65 + (k : Int)), .int .i64 (97 + (k : Int)), .int .i64 (97 + (k : Int))] 46)) (fun j => False ∧ (Value.slice A2 m c2).ownBlock ≠ some j ∧ j < (w5.alloc (.cells #[.int .i64 (65 + (k : Int)), .int .i64 (65 + (k : Int)), .int .i64 (97 + (k : Int)), .int .i64 (97 + (k : Int))] 46)).heap.size) [⟨65 + (k : Int), 65 + (k : Int)⟩, ⟨97 + (k : Int), 97 + (k : Int)⟩] [.int .i64 (65 + (k : Int)), .int .i64 (65 + (k : Int)), .int .i64 (97 + (k : Int)), .int .i64 (97 + (k : Int))] from rgc_row (l := [⟨65 + (k : Int), 65 + (k : Int)⟩, ⟨97 + (k : Int), 97 + (k : Int)⟩]) (fun x hx => by
            rcases List.mem_cons.1 hx with rfl | hx
            · exact W1.out
            · rw [List.mem_singleton.1 hx]; exact W2.out))
          have C6 := hid (C5.out.alloc (.cells #[.int .i64 (65 + (k : Int)), .int .i64 (65 + (k : Int)), .int .i64 (97 + (k : Int)), .int .i64 (97 + (k : Int))] 46))
          go_wp2_with (first | (at_builtin; refine vec_list (d := rgK) _ rfl (.tmp 26) (.tmp 39) 24 46 (.agg #[.int .i64 0, .int .i64 0]) 16 rfl Try.underlying24 info46 rfl (by decide) (by decide) (.slice A2 m c2) rfl (HV2.out.chg C6.out (fun _ _ h => h) (fun _ _ _ _ h => h)) (some ⟨w5.heap.size, 0, none⟩) 2 2 (ys := [⟨65 + (k : Int), 65 + (k : Int)⟩, ⟨97 + (k : Int), 97 + (k : Int)⟩]) rfl (by simp) (by omega) rfl SEE.out ROW.out HBY.out ?_; rw [← HM.out]; intro A3 c3 w7 h3 h4; have H3 := hid h3; have H4 := hid (show Chg (fun j => (Value.slice A2 m c2).ownBlock = some j) wr w7 from (C6.out.mono (fun _ h _ => h.elim)).trans h4 (fun _ h _ => h)); clear h3 h4))
          have HM2 := hid (HC.out.trans H4.out (fun i hi hlt => by have q1 := HV2.out.inS i hi; omega))
          have HN2 := hid (show Vec rgK 46 w7 (fun k => w.heap.size ≤ k) (fun _ => False) (.slice A3 (m + 2) c3) (q ++ addK q (k + 1)) by
            rw [HQ.out]
            exact H3.out.mono (fun j hj _ => by
              rcases hj with hj | hj
              · exact hj
              · have q1 := HC.out.size; have q2 := C6.out.size; omega) (fun j hj _ => hj))
          go_wp2_with fail
          go_roundw
          case measure => simp [intOf]; omega
          case rel => first | exact ⟨k + 1, by omega, by go_num, HN2.out, HM2.out⟩ | ((repeat apply Exists.intro); exact ⟨⟨k + 1, by omega, by go_num, HN2.out, HM2.out⟩, rfl⟩)
      · have HQ := hid (HYES.out (by rw [ha]; rfl))
        clear ha
        have SEE := hid (show Sees (w4.alloc (.cells #[.int .i64 (65 + (k : Int)), .int .i64 (65 + (k : Int)), .int .i64 (97 + (k : Int)), .int .i64 (97 + (k : Int))] 46)) (fun k => k = w4.heap.size) (some ⟨w4.heap.size, 0, none⟩) [.int .i64 (65 + (k : Int)), .int .i64 (65 + (k : Int)), .int .i64 (97 + (k : Int)), .int .i64 (97 + (k : Int))] from new_sees w4 _ 46)
        have ROW := hid (show Ty.Row rgK (w4.alloc (.cells #[.int .i64 (65 + (k : Int)), .int .i64 (65 + (k : Int)), .int .i64 (97 + (k : Int)), .int .i64 (97 + (k : Int))] 46)) (fun j => False ∧ (Value.slice A2 m c2).ownBlock ≠ some j ∧ j < (w4.alloc (.cells #[.int .i64 (65 + (k : Int)), .int .i64 (65 + (k : Int)), .int .i64 (97 + (k : Int)), .int .i64 (97 + (k : Int))] 46)).heap.size) [⟨65 + (k : Int), 65 + (k : Int)⟩, ⟨97 + (k : Int), 97 + (k : Int)⟩] [.int .i64 (65 + (k : Int)), .int .i64 (65 + (k : Int)), .int .i64 (97 + (k : Int)), .int .i64 (97 + (k : Int))] from rgc_row (l := [⟨65 + (k : Int), 65 + (k : Int)⟩, ⟨97 + (k : Int), 97 + (k : Int)⟩]) (fun x hx => by
          rcases List.mem_cons.1 hx with rfl | hx
          · exact W1.out
          · rw [List.mem_singleton.1 hx]; exact W2.out))
        have C6 := hid (C4.out.alloc (.cells #[.int .i64 (65 + (k : Int)), .int .i64 (65 + (k : Int)), .int .i64 (97 + (k : Int)), .int .i64 (97 + (k : Int))] 46))
        go_wp2_with (first | (at_builtin; refine vec_list (d := rgK) _ rfl (.tmp 26) (.tmp 39) 24 46 (.agg #[.int .i64 0, .int .i64 0]) 16 rfl Try.underlying24 info46 rfl (by decide) (by decide) (.slice A2 m c2) rfl (HV2.out.chg C6.out (fun _ _ h => h) (fun _ _ _ _ h => h)) (some ⟨w4.heap.size, 0, none⟩) 2 2 (ys := [⟨65 + (k : Int), 65 + (k : Int)⟩, ⟨97 + (k : Int), 97 + (k : Int)⟩]) rfl (by simp) (by omega) rfl SEE.out ROW.out HBY.out ?_; rw [← HM.out]; intro A3 c3 w7 h3 h4; have H3 := hid h3; have H4 := hid (show Chg (fun j => (Value.slice A2 m c2).ownBlock = some j) wr w7 from (C6.out.mono (fun _ h _ => h.elim)).trans h4 (fun _ h _ => h)); clear h3 h4))
        have HM2 := hid (HC.out.trans H4.out (fun i hi hlt => by have q1 := HV2.out.inS i hi; omega))
        have HN2 := hid (show Vec rgK 46 w7 (fun k => w.heap.size ≤ k) (fun _ => False) (.slice A3 (m + 2) c3) (q ++ addK q (k + 1)) by
          rw [HQ.out]
          exact H3.out.mono (fun j hj _ => by
            rcases hj with hj | hj
            · exact hj
            · have q1 := HC.out.size; have q2 := C6.out.size; omega) (fun j hj _ => hj))
        go_wp2_with fail
        go_roundw
        case measure => simp [intOf]; omega
        case rel => first | exact ⟨k + 1, by omega, by go_num, HN2.out, HM2.out⟩ | ((repeat apply Exists.intro); exact ⟨⟨k + 1, by omega, by go_num, HN2.out, HM2.out⟩, rfl⟩)
    · obtain rfl : k = 26 := by omega
      clear hC
      obtain ⟨A5, c5, m5, he5, hm5, h6⟩ := own_form_len HV2.out
      cases he5
      have H6 := hid h6
      have hm6 : m ≤ 60000 := by have := HMB.out; omega
      clear h6 hm5
      go_wp2_with fail
      refine (normal_any H6.out (by omega) (fun x hx => by
        rcases List.mem_append.1 hx with hx | hx
        · exact nrm_right HN.out x hx
        · exact addK_right q 26 (Nat.le_refl _) x hx)).mono ?_
      rintro e w5 ⟨v, q2, rfl, ⟨h7, h7', h7l⟩, h8, h9⟩
      have HQL := hid (show q2.length ≤ n + 52 by have := HMB.out; omega)
      have H7 := hid h7
      have H7' := hid (show ∀ u, has q2 u = (has q u || has q (twin u)) from fun u => by rw [h7', fold_has])
      have H8 := hid (own_set_up h8 HC.out.size)
      have H9 := hid (HC.out.trans h9 (fun _ h _ => h))
      clear h7 h7' h8 h9 h7l
      go_wp2_with fail
      refine bodyPost_ret (v := .tuple #[v, .int .i64 0]) (by simp [results, Try.results22, go_sem]) rfl ?_
      exact ⟨_, _, rfl, ⟨H7.out, H7'.out, HQL.out⟩, H8.out, H9.out⟩
end Go.Proofs.Ytoojifcpjbakgaa.Cl
