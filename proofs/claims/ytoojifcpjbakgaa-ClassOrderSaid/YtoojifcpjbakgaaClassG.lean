/- The contract of the document's Edges; Fold of what is not normal. -/
import Derived.Test.YtoojifcpjbakgaaClassF
namespace Go.Proofs.Ytoojifcpjbakgaa.Cl
set_option linter.unusedVariables false
set_option linter.unusedSimpArgs false
open Go.RowKit Go.Proofs.Ytoojifcpjbakgaa.C Go.Shelf
attribute [local go_sem] max2_int min2_int max_two min_two

set_option maxHeartbeats 1000000 in
theorem fold_no {S : Nat → Prop} {xs : List Rg} {w : World} {A : Option Addr} {n c : Nat} (hv : Ty.At rgK w S A n c xs) (hok : n ≤ 50000) (hn : nrm xs = false) :
    Calls Try.prog 22 #[.slice A n c] w fun e w' => e = .returned (.tuple #[.slice none 0 0, .int .i64 10]) ∧ Chg (fun _ => False) w w' := by
  have HV := hid hv
  have HN := hid hn
  clear hv hn
  go_enter Try.func22, Try.ntmps22
  go_wp2_with fail
  refine (isnormal_any HV.out (by omega)).mono ?_
  rintro e w2 ⟨rfl, h2⟩
  have H2 := hid h2
  clear h2
  rw [HN.out]
  go_wp2_with fail
  refine bodyPost_ret (v := .tuple #[.slice none 0 0, .int .i64 10]) (by simp [results, Try.results22, go_sem]) rfl ?_
  exact ⟨rfl, H2.out⟩

theorem info3 : (Try.prog.info? 3).map (fun i => (i.zero, i.size, i.bytes)) = some (some (.int .i64 0), 1, 8) := by kernel_rfl
/-- Numbers of one's own, none of them great. -/
def OutI (w wr : World) (o : Value) (b : Nat) : Prop :=
  ∃ l : List Int, l.length ≤ b ∧ (∀ x ∈ l, (Lit.int .i64 x).wf = true) ∧ Vec (Ty.int .i64) 3 wr (fun k => w.heap.size ≤ k) (fun _ => False) o l ∧ Chg (fun _ => False) w wr
theorem vec_apart {α β : Type} {d : Ty α} {d2 : Ty β} {e1 e2 : Nat} {w : World} {S D S2 D2 : Nat → Prop} {v1 v2 : Value} {xs : List α} {ys : List β} (h1 : Vec d e1 w S D v1 xs) (h2 : Vec d2 e2 w S2 D2 v2 ys) (hne : e1 ≠ e2) : ∀ k, v2.ownBlock = some k → ¬ v1.ownBlock = some k := fun k hk h => by
  obtain ⟨cells, q1, _⟩ := h2
  obtain ⟨cur, hc⟩ := own_type q1 k hk
  exact h1.ne hc hne h
theorem OutI.form {w wr : World} {o : Value} {b : Nat} (h : OutI w wr o b) : ∃ A m c, o = .slice A m c ∧ m ≤ b := by
  obtain ⟨l, h1, h2, h3, h4⟩ := h
  obtain ⟨A, c, rfl⟩ := h3.form
  exact ⟨A, l.length, c, rfl, h1⟩
theorem OutI.mono {w wr : World} {o : Value} {b b' : Nat} (h : OutI w wr o b) (hb : b ≤ b') : OutI w wr o b' := by
  obtain ⟨l, h1, h⟩ := h
  exact ⟨l, Nat.le_trans h1 hb, h⟩
theorem OutI.chg {w wr w2 : World} {o : Value} {b : Nat} (h : OutI w wr o b) (hc : Chg (fun _ => False) wr w2) : OutI w w2 o b := by
  obtain ⟨l, h1, h2, h3, h4⟩ := h
  exact ⟨l, h1, h2, h3.chg hc (fun _ _ h => h) (fun _ _ _ _ h => h), h4.trans hc (fun _ h _ => h)⟩
theorem OutI.keep {w wr w2 : World} {o : Value} {b : Nat} {M : Nat → Prop} (h : OutI w wr o b) (hc : Chg M wr w2) (ho : ∀ k, o.ownBlock = some k → ¬ M k) (hM : ∀ k, M k → w.heap.size ≤ k) : OutI w w2 o b := by
  obtain ⟨l, h1, h2, h3, h4⟩ := h
  exact ⟨l, h1, h2, h3.chg hc ho (fun _ h _ _ => h.elim), h4.trans hc (fun i hi hlt => by have := hM i hi; omega)⟩
theorem OutI.same {w wr : World} {o : Value} {b : Nat} (h : OutI w wr o b) : Chg (fun _ => False) w wr := by
  obtain ⟨l, h1, h2, h3, h4⟩ := h
  exact h4
theorem OutI.apart {w wr : World} {o : Value} {b : Nat} {S D : Nat → Prop} {v : Value} {xs : List Rg} {e : Nat} (h : OutI w wr o b) (hv : Vec rgK e wr S D v xs) (hne : 3 ≠ e) : ∀ k, v.ownBlock = some k → ¬ o.ownBlock = some k := by
  obtain ⟨l, h1, h2, h3, h4⟩ := h
  exact vec_apart h3 hv hne
theorem int_app {ops : Array Oper} {rest : List Oper} {o : Oper} {a : Act} {Q : Exit → Act → World → Prop} (w0 wr : World) (hgd : o.guard = none) (s x : Operand)
    (ho : o.op = .call { callee := .builtin .append, args := #[s, x], argTypes := #[38, 38] })
    (A : Option Addr) (m c b : Nat) (v : Int) (hs : a.eval s = .slice A m c) (hO : OutI w0 wr (.slice A m c) b) (hv : (Lit.int .i64 v).wf = true) (hx : a.eval x = .slice (some ⟨wr.heap.size, 0, none⟩) 1 1) (hb : b ≤ 1000000)
    (h : ∀ A' c' w', OutI w0 w' (.slice A' (m + 1) c') (b + 1) → Chg (fun k => (Value.slice A m c).ownBlock = some k) wr w' → wpList Try.prog ops Q rest (a.put o.dst (.slice A' (m + 1) c')) w') :
    wpList Try.prog ops Q (o :: rest) a (wr.alloc (.cells #[.int .i64 v] 3)) := by
  obtain ⟨l, h1, h2, h3, h4⟩ := hO
  have hm : m = l.length := by
    obtain ⟨A', c', he⟩ := h3.form
    injection he
  have C1 := chg_box wr (.cells #[.int .i64 v] 3)
  refine vec_list (d := Ty.int .i64) _ hgd s x 38 3 (.int .i64 0) 8 ho Try.underlying38 info3 rfl (by decide) (by decide) (.slice A m c) hs (h3.chg C1 (fun _ _ h => h) (fun _ _ _ _ h => h)) (some ⟨wr.heap.size, 0, none⟩) 1 1 (ys := [v]) hx (by simp) (by omega) rfl (new_sees wr #[.int .i64 v] 3) (Ty.Row.one_ ⟨rfl, hv⟩) (by omega) ?_
  rw [← hm]
  intro A3 c3 w3 q3 q4
  have C2 : Chg (fun k => (Value.slice A m c).ownBlock = some k) wr w3 := (C1.mono (fun _ h _ => h.elim)).trans q4 (fun _ h _ => h)
  refine h A3 c3 w3 ⟨l ++ [v], by simp; omega, fun y hy => ?_, q3.mono (fun j hj _ => ?_) (fun _ h _ => h), h4.trans C2 (fun i hi hlt => ?_)⟩ C2
  · rcases List.mem_append.1 hy with hy | hy
    · exact h2 y hy
    · rw [List.mem_singleton.1 hy]; exact hv
  · rcases hj with hj | hj
    · exact hj
    · have := C1.size; have := h4.size; omega
  · have := h3.inS i hi; omega

set_option maxHeartbeats 4000000 in
set_option maxRecDepth 100000 in
theorem edges_any {S T : Nat → Prop} {xs ys : List Rg} {w : World} {A B : Option Addr} {n c m d : Nat} (hx : Ty.At rgK w S A n c xs) (hy : Ty.At rgK w T B m d ys) (hok : n ≤ 1000) (hok2 : m ≤ 1000) (hrx : ∀ x ∈ xs, x.right = true) (hry : ∀ x ∈ ys, x.right = true) :
    Calls Try.prog 19 #[.slice A n c, .slice B m d] w fun e w' => ∃ v, e = .returned v ∧ OutI w w' v 100000 := by
  have HX := hid hx
  have HY := hid hy
  have LX := hid hx.1
  have LY := hid hy.1
  have HR := hid (show ∀ x ∈ xs ++ ys, x.right = true from fun x h => by
    rcases List.mem_append.1 h with h | h
    · exact hrx x h
    · exact hry x h)
  have hn : (n : Int) ≤ 1000 := by omega
  have hm : (m : Int) ≤ 1000 := by omega
  clear hx hy hrx hry
  obtain ⟨W1, hW1⟩ : ∃ W1, W1 = w.alloc (.cells #[.int .i64 0, .int .i64 64, .int .i64 65, .int .i64 90, .int .i64 91, .int .i64 96, .int .i64 97, .int .i64 122, .int .i64 123, .int .i64 1114367] 3) := ⟨_, rfl⟩
  have C1 := hid (show Chg (fun _ => False) w W1 by rw [hW1]; exact chg_box _ _)
  have O1 := hid (show OutI w W1 (.slice (some ⟨w.heap.size, 0, none⟩) 10 10) 10 by
    refine ⟨[0, 64, 65, 90, 91, 96, 97, 122, 123, 1114367], Nat.le_refl _, by decide, ⟨[.int .i64 0, .int .i64 64, .int .i64 65, .int .i64 90, .int .i64 91, .int .i64 96, .int .i64 97, .int .i64 122, .int .i64 123, .int .i64 1114367], ?_, ?_, ?_⟩, C1.out⟩
    · rw [hW1]; exact World.ownsRow_lit w _ 10 (Nat.zero_le _) (by simp [maxLen]) rfl
    · intro k hk; simp [Value.ownBlock] at hk; show w.heap.size ≤ k; omega
    · refine ⟨rfl, fun i x hx => ?_⟩
      rcases (show i = 0 ∨ i = 1 ∨ i = 2 ∨ i = 3 ∨ i = 4 ∨ i = 5 ∨ i = 6 ∨ i = 7 ∨ i = 8 ∨ i = 9 ∨ 10 ≤ i by omega) with rfl | rfl | rfl | rfl | rfl | rfl | rfl | rfl | rfl | rfl | h
      all_goals first | (rw [List.getElem?_eq_none (by simpa using h)] at hx; cases hx) | (cases hx; exact ⟨rfl, by decide⟩))
  obtain ⟨q1, q2, q3, q4, q5⟩ := at_open HX.out
  obtain ⟨r1, r2, r3, r4, r5⟩ := at_open HY.out
  have Q3 := hid q3
  have Q5 := hid q5
  have R3 := hid r3
  have R5 := hid r5
  have hsz : W1.heap.size = w.heap.size + 1 := by rw [hW1]; simp
  have C2 := hid (C1.out.alloc (.cells #[] 33))
  have Q4 := hid (q4.chg C2.out (fun _ _ h => h))
  have VN := hid (show Vec rgK 33 (W1.alloc (.cells #[] 33)) (fun k => w.heap.size ≤ k) (fun _ => False) (.slice (some ⟨w.heap.size + 1, 0, none⟩) 0 0) [] from ⟨[], ⟨by simp, .inr ⟨w.heap.size + 1, 0, #[], rfl, Nat.zero_le _, by rw [← hsz]; exact blk_new W1 _, Nat.le_refl _, by simp [maxLen], by simp, by simp⟩⟩, fun k hk => by simp [Value.ownBlock] at hk; show w.heap.size ≤ k; omega, Ty.Row.nil _ _ _⟩)
  have O2 := hid (O1.out.chg (chg_box W1 (.cells #[] 33)))
  clear q1 q3 q4 q5 r1 r3 r4 r5 hsz
  go_enter Try.func19, Try.ntmps19
  go_wp2_with (first | ((with_reducible refine at_dst (N := 13) rfl ?_); rw [← hW1]; clear hW1; refine vec_list (d := rgK) _ rfl (.tmp 11) (.tmp 12) 30 33 (.agg #[.int .i64 0, .int .i64 0]) 16 rfl Try.underlying30 info33 rfl (by decide) (by decide) (.slice (some ⟨w.heap.size + 1, 0, none⟩) 0 0) rfl VN.out A n c (ys := xs) rfl Q3.out q2 LX.out Q4.out (rgc_row Q5.out) (by simp; omega) ?_; simp only [List.length_nil, Nat.zero_add, List.nil_append]; intro A3 c3 w3 h3 h4; have H3 := hid (h3.mono (S' := fun k => w.heap.size ≤ k) (D' := fun _ => False) (fun j hj _ => by rcases hj with hj | hj; exact hj; exact Nat.le_trans C2.out.size hj) (fun _ h _ => h)); have O3 := hid (O2.out.keep h4 (fun k hk hk2 => by simp [Value.ownBlock] at hk hk2; omega) (fun k hk => by simp [Value.ownBlock] at hk; omega)); clear h3 h4; have R4 := hid (at_open (HY.out.chg O3.out.same (fun _ _ h => h))).2.2.2.1) | ((with_reducible refine at_dst (N := 15) rfl ?_); refine vec_list (d := rgK) _ rfl (.tmp 13) (.tmp 14) 30 33 (.agg #[.int .i64 0, .int .i64 0]) 16 rfl Try.underlying30 info33 rfl (by decide) (by decide) (.slice A3 n c3) rfl H3.out B m d (ys := ys) rfl R3.out r2 LY.out R4.out (rgc_row R5.out) (by rw [← LX.out]; omega) ?_; rw [← LX.out]; intro A4 c4 w4 h5 h6; have H4 := hid (h5.mono (S' := fun k => w.heap.size ≤ k) (D' := fun _ => False) (fun j hj _ => by rcases hj with hj | hj; exact hj; exact Nat.le_trans O3.out.same.size hj) (fun _ h _ => h)); have O4 := hid (O3.out.keep h6 (fun k hk hk2 => O3.out.apart H3.out (by decide) k hk2 hk) (fun k hk => H3.out.inS k hk)); clear h5 h6))
  obtain ⟨N, hN⟩ : ∃ N, N = n + m := ⟨_, rfl⟩
  have HNL := hid (show N = (xs ++ ys).length by rw [hN, List.length_append, LX.out, LY.out])
  have hNb : (N : Int) ≤ 2000 := by omega
  have H5 := hid (show Vec rgK 33 w4 (fun k => w.heap.size ≤ k) (fun _ => False) (.slice A4 N c4) (xs ++ ys) by rw [hN]; exact H4.out)
  have HR2 := hid (show ∀ x ∈ xs ++ ys, x.wf from fun x hx => right_wf (HR.out x hx))
  rw [← hN]
  clear hN hn hm q2 r2 hok hok2
  generalize xs ++ ys = zs at HR H5 HNL HR2
  go_loopw [5, 7] (fun o i wr => ∃ k : Nat, k ≤ N ∧ i = .int .i64 k ∧ OutI w wr o (10 + 6 * k) ∧ Vec rgK 33 wr (fun k => w.heap.size ≤ k) (fun _ => False) (.slice A4 N c4) zs) (fun _ i _ => N - (intOf i).toNat)
  case atStart => exact ⟨0, Nat.zero_le _, rfl, O4.out, H5.out⟩
  case round =>
    obtain ⟨k, hk, rfl, hO, hV⟩ := hrel
    have HO := hid hO
    have HV := hid hV
    by_cases hlt : k < N
    · have hkl : k < zs.length := by rw [← HNL.out]; exact hlt
      have hkN : (k : Int) < (N : Int) := by omega
      have hxr := right_iff.1 (HR.out _ (List.getElem_mem hkl))
      have HGE := hid (List.getElem?_eq_getElem hkl)
      generalize zs[k] = x at HGE hxr
      obtain ⟨lo, hi⟩ := x
      simp only at hxr
      have hx1 := hxr.1
      have hx2 := hxr.2.1
      have hx3 := hxr.2.2
      clear hxr hO hV hkl
      go_wp2_with fail
      go_hide hQ
      go_loopw [5, 8] (fun o j wr2 => ∃ (q : Int), -1 ≤ q ∧ q ≤ 2 ∧ j = .int .i64 q ∧ OutI w wr2 o (10 + 6 * k + 2 * (q + 1).toNat) ∧ Vec rgK 33 wr2 (fun k => w.heap.size ≤ k) (fun _ => False) (.slice A4 N c4) zs) (fun _ j _ => (2 - intOf j).toNat)
      case atStart => exact ⟨-1, by omega, by omega, rfl, HO.out, HV.out⟩
      case round =>
        obtain ⟨q, hq1, hq2, rfl, hO, hV⟩ := hrel
        obtain ⟨A5, m5, c5, rfl, hm5⟩ := hO.form
        have HO5 := hid hO
        have HV5 := hid hV
        obtain ⟨g, cs, hA4, hgS, hgl, hK, hcl⟩ := hV.get (by decide) HGE.out
        obtain ⟨rfl, _⟩ := rg_open hK
        have y0 : wr.cell? ⟨g, k * 2, none⟩ = some (.int .i64 lo) := hcl 0 _ rfl
        have y1 : wr.cell? ⟨g, k * 2 + 1, none⟩ = some (.int .i64 hi) := hcl 1 _ rfl
        clear hO hV hK hcl
        by_cases hql : q ≤ 1
        · have WLO := hid (show (Lit.int .i64 (lo + q)).wf = true from int_wf (by omega) (by omega))
          have WHI := hid (show (Lit.int .i64 (hi + q)).wf = true from int_wf (by omega) (by omega))
          have C5 := hid (chg_box wr (.cells #[.int .i64 (lo + q)] 3))
          have HBB := hid (show 10 + 6 * k + 2 * (q + 1).toNat ≤ 100000 by omega)
          have HEQ := hid (show 10 + 6 * k + 2 * (q + 1).toNat + 1 + 1 ≤ 10 + 6 * k + 2 * (q + 1 + 1).toNat by omega)
          subst hA4
          go_wp2_with (first | ((with_reducible refine at_dst (N := 35) rfl ?_); refine int_app w wr rfl (.tmp 26) (.tmp 34) rfl A5 m5 c5 _ (lo + q) rfl HO5.out WLO.out rfl (by have := HBB.out; omega) ?_; intro A6 c6 w6 h6 h7; have H6 := hid h6; have V6 := hid (HV5.out.chg h7 (HO5.out.apart HV5.out (by decide)) (fun _ h _ _ => h.elim)); have z1 := (show w6.cell? ⟨g, k * 2 + 1, none⟩ = some (.int .i64 hi) from h7.cell y1 (HO5.out.apart HV5.out (by decide) g rfl)); clear h6 h7) | ((with_reducible refine at_dst (N := 45) rfl ?_); refine int_app w w6 rfl (.tmp 36) (.tmp 44) rfl A6 (m5 + 1) c6 _ (hi + q) rfl H6.out WHI.out rfl (by have := HBB.out; omega) ?_; intro A7 c7 w7 h8 h9; have H8 := hid (h8.mono HEQ.out); have V8 := hid (V6.out.chg h9 (H6.out.apart V6.out (by decide)) (fun _ h _ _ => h.elim)); clear h8 h9))
          go_roundw
          case measure => simp [intOf]; omega
          case rel => first | exact ⟨q + 1, by omega, by omega, by go_num, H8.out, V8.out⟩ | ((repeat apply Exists.intro); exact ⟨⟨q + 1, by omega, by omega, by go_num, H8.out, V8.out⟩, rfl⟩)
        · obtain rfl : q = 2 := by omega
          have HO6 := hid (show OutI w wr (.slice A5 m5 c5) (10 + 6 * (k + 1)) from HO5.out.mono (by show 10 + 6 * k + 2 * ((2 : Int) + 1).toNat ≤ _; have : ((2 : Int) + 1).toNat = 3 := rfl; omega))
          clear y0 y1 hA4
          go_wp2_with fail
          subst hQ
          go_wp2_with fail
          go_roundw
          case measure => simp [intOf]; omega
          case rel => first | exact ⟨k + 1, by omega, by go_num, HO6.out, HV5.out⟩ | ((repeat apply Exists.intro); exact ⟨⟨k + 1, by omega, by go_num, HO6.out, HV5.out⟩, rfl⟩)
    · obtain rfl : k = N := by omega
      have HO2 := hid (show OutI w wr _ 20000 from hO.mono (by omega))
      clear hO hV HO
      go_wp2_with fail
      go_loopw [5, 9] (fun o i wr => ∃ q : Nat, q ≤ 58 ∧ i = .int .i64 (65 + (q : Int)) ∧ OutI w wr o (20000 + q)) (fun _ i _ => 123 - (intOf i).toNat)
      case atStart => exact ⟨0, by omega, rfl, HO2.out⟩
      case round =>
        obtain ⟨q, hq, rfl, hO⟩ := hrel
        obtain ⟨A5, m5, c5, rfl, hm5⟩ := hO.form
        have HO5 := hid hO
        clear hO
        by_cases hql : q < 58
        · have W1 := hid (show (Lit.int .i64 (65 + (q : Int))).wf = true from int_wf (by omega) (by omega))
          go_wp2_with (first | ((with_reducible refine at_dst (N := 53) rfl ?_); refine int_app w wr rfl (.tmp 50) (.tmp 52) rfl A5 m5 c5 _ (65 + (q : Int)) rfl HO5.out W1.out rfl (by omega) ?_; intro A6 c6 w6 h6 h7; have H6 := hid h6; clear h6 h7))
          go_roundw
          case measure => simp [intOf]; omega
          case rel => first | exact ⟨q + 1, by omega, by go_num, H6.out⟩ | ((repeat apply Exists.intro); exact ⟨⟨q + 1, by omega, by go_num, H6.out⟩, rfl⟩)
        · obtain rfl : q = 58 := by omega
          have HO6 := hid (HO5.out.mono (show 20000 + 58 ≤ 100000 by omega))
          go_wp2_with fail
          go_ret
          exact ⟨_, rfl, HO6.out⟩
end Go.Proofs.Ytoojifcpjbakgaa.Cl
