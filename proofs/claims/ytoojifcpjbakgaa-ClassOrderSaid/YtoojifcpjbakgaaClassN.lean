/- class.normal: the contract. -/
import Derived.Test.YtoojifcpjbakgaaClassS
import Derived.WalkMore
namespace Go.Proofs.Ytoojifcpjbakgaa.Cl
set_option linter.unusedVariables false
set_option linter.unusedSimpArgs false
open Go.RowKit Go.Proofs.Ytoojifcpjbakgaa.C Go.Shelf
attribute [local go_sem] max2_int min2_int max_two min_two

theorem nrm_right : ∀ {l : List Rg} {a : Int}, nrmFrom a l = true → ∀ q ∈ l, q.right = true
  | [], _, _, q, h => by cases h
  | r :: l, a, h, q, hq => by
    obtain ⟨h1, h2, h3⟩ := nrmFrom_cons.1 h
    rcases List.mem_cons.1 hq with rfl | hq
    · simpa [Rg.right] using h1
    · exact nrm_right h3 q hq
theorem right_iff {x : Rg} : x.right = true ↔ 0 ≤ x.lo ∧ x.lo ≤ x.hi ∧ x.hi ≤ 1114367 := by simp [Rg.right]
theorem int_wf {x : Int} (h0 : -9223372036854775808 ≤ x) (h1 : x ≤ 9223372036854775807) : (Lit.int .i64 x).wf = true := by
  simp [Lit.wf, IntKind.min, IntKind.max, IntKind.bits, IntKind.signed]
  omega
theorem right_wf {x : Rg} (h : x.right = true) : x.wf := by
  have := right_iff.1 h
  exact ⟨int_wf (by omega) (by omega), int_wf (by omega) (by omega)⟩

/-- The cells of a row of ranges are its ranges'. -/
theorem row_rgc {w : World} {S : Nat → Prop} : ∀ {xs : List Rg} {cells : List Value}, Ty.Row rgK w S xs cells → cells = rgc xs ∧ ∀ x ∈ xs, x.wf
  | [], cells, h => ⟨List.eq_nil_of_length_eq_zero (by have := h.1; simpa using this), fun x hx => by cases hx⟩
  | x :: xs, cells, h => by
    have h0 := h.2 0 x rfl
    rw [Nat.zero_mul, List.drop_zero] at h0
    obtain ⟨e0, w0⟩ := rg_open h0
    have h1 := (h.drop 1)
    rw [Nat.one_mul] at h1
    have h2 : Ty.Row rgK w S xs (cells.drop 2) := h1
    obtain ⟨e1, w1⟩ := row_rgc h2
    refine ⟨?_, fun y hy => ?_⟩
    · have : cells.take 2 = [.int .i64 x.lo, .int .i64 x.hi] := e0
      rw [← List.take_append_drop 2 cells, this, e1]
      rfl
    · rcases List.mem_cons.1 hy with rfl | hy
      · exact w0
      · exact w1 y hy
theorem vec_of_own {e b : Nat} {w : World} {S D : Nat → Prop} {v : Value} {n : Nat} {xs : List Rg} (h : w.ownsRow b e 2 v n (rgc xs)) (hn : n = xs.length) (hS : ∀ k, v.ownBlock = some k → S k) (hw : ∀ x ∈ xs, x.wf) : Vec rgK e w S D v xs := by
  subst hn
  exact ⟨rgc xs, own_base0 h, hS, rgc_row hw⟩
theorem vec_wf {e : Nat} {w : World} {S D : Nat → Prop} {v : Value} {xs : List Rg} (h : Vec rgK e w S D v xs) : ∀ x ∈ xs, x.wf := by
  obtain ⟨cells, h1, h2, h3⟩ := h
  exact (row_rgc h3).2
theorem vec_own {e : Nat} {w : World} {S D : Nat → Prop} {v : Value} {xs : List Rg} (h : Vec rgK e w S D v xs) : w.ownsRow 0 e 2 v xs.length (rgc xs) := by
  obtain ⟨cells, h1, h2, h3⟩ := h
  rw [← (row_rgc h3).1]
  exact h1
theorem vec_hi {e : Nat} {w : World} {S D : Nat → Prop} {g n c : Nat} {pre : List Rg} {q : Rg} {M : Int} (h : Vec rgK e w S D (.slice (some ⟨g, 0, none⟩) n c) (pre ++ [q])) (hM : (Lit.int .i64 M).wf = true) (hn : n = pre.length + 1) :
    Vec rgK e (w.setCell ⟨g, pre.length * 2 + 1, none⟩ (.int .i64 M)) S D (.slice (some ⟨g, 0, none⟩) n c) (pre ++ [⟨q.lo, M⟩]) := by
  have h1 := vec_own h
  have hw := vec_wf h
  subst hn
  rw [List.length_append] at h1
  have h2 := World.ownsRow.stored h1 (pre.length * 2 + 1) (.int .i64 M)
  have e2 : (rgc (pre ++ [q])).set (pre.length * 2 + 1) (.int .i64 M) = rgc (pre ++ [⟨q.lo, M⟩]) := by
    rw [rgc_snoc, rgc_snoc, List.set_append_right _ _ (by rw [rgc_len]; omega), rgc_len]
    congr 1
    rw [show pre.length * 2 + 1 - pre.length * 2 = 1 by omega]
    rfl
  rw [e2] at h2
  refine vec_of_own h2.1 (by simp) h.inS (fun x hx => ?_)
  rcases List.mem_append.1 hx with hx | hx
  · exact hw x (List.mem_append_left _ hx)
  · rw [List.mem_singleton.1 hx]
    exact ⟨(hw q (by simp)).1, hM⟩
theorem pushAll_snoc (out l : List Rg) (x : Rg) : pushAll out (l ++ [x]) = push (pushAll out l) x := by simp [pushAll]

theorem push_len : ∀ (l : List Rg) (r : Rg), (push l r).length ≤ l.length + 1
  | [], r => Nat.le_refl _
  | [q], r => by unfold push; split <;> simp
  | q :: p :: l, r => by
    have := push_len (p :: l) r
    show (push (p :: l) r).length + 1 ≤ _
    simp only [List.length_cons] at this ⊢
    omega
theorem pushAll_len : ∀ (l out : List Rg), (pushAll out l).length ≤ out.length + l.length
  | [], out => Nat.le_refl _
  | r :: l, out => by
    have h1 := pushAll_len l (push out r)
    have h2 := push_len out r
    show (pushAll (push out r) l).length ≤ _
    simp only [List.length_cons]
    omega
/-- A set of one's own behind a call. -/
def OwnSet (w : World) (p : List Rg → Prop) (e : Ending) (w' : World) : Prop :=
  ∃ v q, e = .returned v ∧ p q ∧ Vec rgK 46 w' (fun k => w.heap.size ≤ k) (fun _ => False) v q ∧ Chg (fun _ => False) w w'

set_option maxHeartbeats 4000000 in
theorem normal_any {S : Nat → Prop} {zs : List Rg} {w : World} {A : Option Addr} {n c : Nat} (hv : Ty.At rgK w S A n c zs) (hok : n ≤ 100000) (hr : ∀ x ∈ zs, x.right = true) :
    Calls Try.prog 30 #[.slice A n c] w (OwnSet w fun q => nrm q = true ∧ (∀ u, has q u = has zs u) ∧ q.length ≤ n) := by
  have HV := hid hv
  have HR := hid hr
  obtain ⟨wb, hwb⟩ : ∃ wb, wb = w.alloc (.cells #[.slice A n c] 22) := ⟨_, rfl⟩
  have CB := hid (show Chg (fun _ => False) w wb by rw [hwb]; exact chg_box _ _)
  have BB := hid (show wb.cell? ⟨w.heap.size, 0, none⟩ = some (.slice A n c) by rw [hwb, cellAt (blk_new w _)]; rfl)
  have BL := hid (World.block_lt_of_cell? wb _ BB.out)
  have HZ := hid (show n = zs.length from hv.1)
  clear hv hr
  go_enter Try.func30, Try.ntmps30
  go_wp2_with fail
  go_step3
  go_wp2_with fail
  refine (values_any _ _ _ _).mono ?_
  rintro e w1 ⟨rfl, rfl⟩
  rw [← hwb]
  clear hwb
  go_wp2_with fail
  refine (sorted_any w.heap.size n c A zs (by omega) wb BL.out BB.out ((HV.out.chg CB.out (fun _ _ h => h)).bound.mono (fun _ h => h.2))).mono ?_
  rintro e w1 ⟨v, l, rfl, h1, h2, h3, h4⟩
  have HP := hid h1
  have HS := hid h2
  have HO := hid h3
  have HC := hid (CB.out.trans h4 (fun _ h _ => h))
  have HLR := hid (show ∀ x ∈ l, x.right = true from fun x hx => HR.out x (h1.mem_iff.1 hx))
  have HLL := hid (show l.length = n by rw [h1.length_eq]; exact HZ.out.symm)
  obtain ⟨A1, c1, rfl, _⟩ := own_sees h3
  have h3' := h3
  rw [← HZ.out] at h3'
  have HL1 := hid (show Ty.At rgK w1 (fun k => k < w1.heap.size) A1 n c1 l from by
    have hv1 : Vec rgK 46 w1 (fun k => k < w1.heap.size) (fun k => k < w1.heap.size) (.slice A1 n c1) l := vec_of_own h3' HLL.out.symm (own_lt h3') (fun x hx => right_wf (HLR.out x hx))
    exact hv1.at.mono (fun k hk => by rcases hk with h | h <;> exact h))
  rw [← HZ.out]
  clear h1 h2 h3 h4 h3'
  have hn : (n : Int) ≤ 100000 := by omega
  go_wp2_with fail
  go_step3
  go_wp2_with fail
  go_loopw [4, 13] (fun v i wr => ∃ k : Nat, k ≤ n ∧ i = .int .i64 k ∧ Vec rgK 46 wr (fun k => w1.heap.size ≤ k) (fun _ => False) v (pushAll [] (l.take k)) ∧ Chg (fun _ => False) w1 wr) (fun _ i _ => n - (intOf i).toNat)
  case atStart => exact ⟨0, Nat.zero_le _, rfl, Vec.nil _ _ _ _ _, Chg.refl _ _⟩
  case round =>
    obtain ⟨k, hk, rfl, hV, hC⟩ := hrel
    by_cases hlt : k < n
    · have hkl : k < l.length := by rw [HLL.out]; exact hlt
      obtain ⟨a, rfl, ha, hwf, x0, x1⟩ := rg_at (HL1.out.chg hC (fun _ _ h => h)) (List.getElem?_eq_getElem hkl)
      have HTK := hid (show pushAll [] (l.take (k + 1)) = push (pushAll [] (l.take k)) l[k] by rw [List.take_succ_eq_append_getElem hkl, pushAll_snoc])
      have hxr := right_iff.1 (HLR.out _ (List.getElem_mem hkl))
      have hdone : nrm (pushAll [] (l.take k)) = true ∧ _ := pushAll_spec (l := l.take k) (out := []) rfl (fun r hr => HLR.out r (List.mem_of_mem_take hr)) (HS.out.sublist (List.take_sublist _ _)) (fun r _ => Int.le_refl _)
      have HDR := hid (nrm_right hdone.1)
      have HPL := hid (show (pushAll [] (l.take k)).length ≤ 100000 from Nat.le_trans (pushAll_len _ _) (by rw [List.length_nil, List.length_take]; omega))
      clear hdone
      generalize l[k] = x at x0 x1 HTK hwf hxr
      have HXW := hid hwf
      obtain ⟨lo, hi⟩ := x
      simp only at hxr x0 x1
      have hxr1 := hxr.1
      have hxr2 := hxr.2.1
      have hxr3 := hxr.2.2
      clear hxr hwf ha hkl
      have HC1 := hid hC
      have CX := hid (hC.alloc (.cells #[.int .i64 lo, .int .i64 hi] 46))
      have CA := hid (chg_box wr (.cells #[.int .i64 lo, .int .i64 hi] 46))
      have HVX := hid (hV.chg CA.out (fun _ _ h => h) (fun _ _ _ _ h => h))
      obtain ⟨A2, c2, hv2⟩ := hV.form
      have HV2 := hid hV
      clear hC hV
      rcases List.eq_nil_or_concat (pushAll [] (l.take k)) with hd | ⟨pre, q, hd⟩
      · rw [hd] at hv2 HV2 HVX HTK HDR
        replace hv2 : _ = Value.slice A2 0 c2 := hv2
        subst hv2
        clear hd
        go_wp2_with fail
        go_region
        obtain ⟨W2, hW2⟩ : ∃ W2, W2 = (wr.alloc (.cells #[.int .i64 lo, .int .i64 hi] 46)).drew := ⟨_, rfl⟩
        have C2 := hid (show Chg (fun _ => False) wr W2 by rw [hW2]; exact CA.out.drew)
        have bx0 : W2.cell? ⟨wr.heap.size, 0, none⟩ = some (.int .i64 lo) := by rw [hW2]; exact box_lo (x := ⟨lo, hi⟩)
        have bx1 : W2.cell? ⟨wr.heap.size, 1, none⟩ = some (.int .i64 hi) := by rw [hW2]; exact box_hi (x := ⟨lo, hi⟩)
        have C3 := hid (show Chg (fun _ => False) wr (W2.alloc (.cells #[.int .i64 lo, .int .i64 hi] 46)) from C2.out.alloc _)
        rw [← hW2]
        clear hW2
        go_wp2_with (first | (at_builtin; refine vec_list (d := rgK) _ rfl (.tmp 45) (.tmp 47) 24 46 (.agg #[.int .i64 0, .int .i64 0]) 16 rfl Try.underlying24 info46 rfl (by decide) (by decide) (.slice A2 0 c2) rfl (HV2.out.chg C3.out (fun _ _ h => h) (fun _ _ _ _ h => h)) (some ⟨W2.heap.size, 0, none⟩) 1 1 (ys := [⟨lo, hi⟩]) rfl (by simp) (by omega) rfl (new_sees W2 #[.int .i64 lo, .int .i64 hi] 46) (Ty.Row.one_ (rg_shut HXW.out)) (by simp) ?_; simp only [List.length_nil, Nat.zero_add]; intro A3 c3 w3 h3 h4; have H3 := hid h3; have H4 := hid (show Chg (fun k => (Value.slice A2 0 c2).ownBlock = some k) wr w3 from (C3.out.mono (fun _ h _ => h.elim)).trans h4 (fun _ h _ => h)); clear h3 h4))
        have HM := hid (HC1.out.trans H4.out (fun i hi hlt => by have q1 := HV2.out.inS i hi; omega))
        have HN := hid (show Vec rgK 46 w3 (fun k => w1.heap.size ≤ k) (fun _ => False) (.slice A3 (0 + 1) c3) (pushAll [] (l.take (k + 1))) by
          rw [HTK.out]
          exact H3.out.mono (fun j hj _ => by
            rcases hj with hj | hj
            · exact hj
            · have q1 := HC1.out.size; have q2 := C3.out.size; omega) (fun j hj _ => hj))
        go_wp2_with fail
        go_roundw
        case measure => simp [intOf]; omega
        case rel => first | exact ⟨k + 1, by omega, by go_num, HN.out, HM.out⟩ | ((repeat apply Exists.intro); exact ⟨⟨k + 1, by omega, by go_num, HN.out, HM.out⟩, rfl⟩)
      · rw [List.concat_eq_append] at hd
        rw [hd] at hv2 HV2 HVX HTK HDR HPL
        obtain ⟨m, hm⟩ : ∃ m, m = pre.length := ⟨_, rfl⟩
        have hml : (pre ++ [q]).length = m + 1 := by rw [List.length_append, hm]; rfl
        rw [hml] at hv2
        subst hv2
        have HML := hid hml
        have HM0 := hid hm
        clear hd hm hml
        rw [push_snoc] at HTK
        have hqr := right_iff.1 (HDR.out q (by simp))
        have hq2 := hqr.2.1
        have hq3 := hqr.2.2
        have hq1 := hqr.1
        clear hqr
        obtain ⟨g, cs, hA2, hgS, hgl, hK, hcl⟩ := HV2.out.get (i := m) (x := q) (by decide) (by rw [HM0.out]; simp)
        subst hA2
        obtain ⟨rfl, _⟩ := rg_open hK
        have y0 : wr.cell? ⟨g, m * 2 + 1, none⟩ = some (.int .i64 q.hi) := hcl 1 _ rfl
        clear hcl hK
        have hgn : g ≠ wr.heap.size := Nat.ne_of_lt hgl
        have hmb : (m : Int) ≤ 100000 := by have q1 := HPL.out; have q2 := HML.out; omega
        by_cases hle : lo ≤ q.hi + 1
        · rw [if_pos hle] at HTK
          go_wp2_with fail
          go_region
          obtain ⟨W2, hW2⟩ : ∃ W2, W2 = (wr.alloc (.cells #[.int .i64 lo, .int .i64 hi] 46)).drew := ⟨_, rfl⟩
          have C2 := hid (show Chg (fun _ => False) wr W2 by rw [hW2]; exact CA.out.drew)
          have bx0 : W2.cell? ⟨wr.heap.size, 0, none⟩ = some (.int .i64 lo) := by rw [hW2]; exact box_lo (x := ⟨lo, hi⟩)
          have bx1 : W2.cell? ⟨wr.heap.size, 1, none⟩ = some (.int .i64 hi) := by rw [hW2]; exact box_hi (x := ⟨lo, hi⟩)
          have C3 := hid (show Chg (fun _ => False) wr (W2.alloc (.cells #[.int .i64 lo, .int .i64 hi] 46)) from C2.out.alloc _)
          rw [← hW2]
          clear hW2
          have z0 := C2.out.cell y0 (fun h => h)
          have z1 : W2.frozen? ⟨g, m * 2 + 1, none⟩ = false := by
            have q1 := vec_own (HV2.out.chg C2.out (fun _ _ h => h) (fun _ _ _ _ h => h))
            rw [HML.out] at q1
            exact q1.frozenAt (m * 2 + 1)
          go_wp2_with fail
          go_region
          have HN := hid (show Vec rgK 46 (W2.setCell ⟨g, m * 2 + 1, none⟩ (.int .i64 (mx q.hi hi))).drew (fun k => w1.heap.size ≤ k) (fun _ => False) (.slice (some ⟨g, 0, none⟩) (m + 1) c2) (pushAll [] (l.take (k + 1))) by
            have q0 := vec_hi (M := mx q.hi hi) (HV2.out.chg C2.out (fun _ _ h => h) (fun _ _ _ _ h => h)) (by rw [mx_eq]; exact int_wf (by omega) (by omega)) (by rw [HM0.out])
            rw [HTK.out, ← mx_eq]
            rw [← HM0.out] at q0
            exact q0.chg ((Chg.refl (fun _ => False) _).drew) (fun _ _ h => h) (fun _ _ _ _ h => h))
          have HM := hid (show Chg (fun _ => False) w1 (W2.setCell ⟨g, m * 2 + 1, none⟩ (.int .i64 (mx q.hi hi))).drew from ((HC1.out.trans C2.out (fun _ h _ => h)).set (fun h => by have q1 : w1.heap.size ≤ g := hgS; have q2 : g < w1.heap.size := h; omega) _).drew)
          clear z0 z1 y0
          go_wp2_with fail
          go_roundw
          case measure => simp [intOf]; omega
          case rel => first | exact ⟨k + 1, by omega, by go_num, HN.out, HM.out⟩ | ((repeat apply Exists.intro); exact ⟨⟨k + 1, by omega, by go_num, HN.out, HM.out⟩, rfl⟩)
        · rw [if_neg hle] at HTK
          go_wp2_with fail
          go_region
          obtain ⟨W2, hW2⟩ : ∃ W2, W2 = (wr.alloc (.cells #[.int .i64 lo, .int .i64 hi] 46)).drew := ⟨_, rfl⟩
          have C2 := hid (show Chg (fun _ => False) wr W2 by rw [hW2]; exact CA.out.drew)
          have bx0 : W2.cell? ⟨wr.heap.size, 0, none⟩ = some (.int .i64 lo) := by rw [hW2]; exact box_lo (x := ⟨lo, hi⟩)
          have bx1 : W2.cell? ⟨wr.heap.size, 1, none⟩ = some (.int .i64 hi) := by rw [hW2]; exact box_hi (x := ⟨lo, hi⟩)
          have C3 := hid (show Chg (fun _ => False) wr (W2.alloc (.cells #[.int .i64 lo, .int .i64 hi] 46)) from C2.out.alloc _)
          rw [← hW2]
          clear hW2
          go_wp2_with (first | (at_builtin; refine vec_list (d := rgK) _ rfl (.tmp 45) (.tmp 47) 24 46 (.agg #[.int .i64 0, .int .i64 0]) 16 rfl Try.underlying24 info46 rfl (by decide) (by decide) (.slice (some ⟨g, 0, none⟩) (m + 1) c2) rfl (HV2.out.chg C3.out (fun _ _ h => h) (fun _ _ _ _ h => h)) (some ⟨W2.heap.size, 0, none⟩) 1 1 (ys := [⟨lo, hi⟩]) rfl (by simp) (by omega) rfl (new_sees W2 #[.int .i64 lo, .int .i64 hi] 46) (Ty.Row.one_ (rg_shut HXW.out)) (by rw [HML.out]; omega) ?_; rw [HML.out]; intro A3 c3 w3 h3 h4; have H3 := hid h3; have H4 := hid (show Chg (fun k => (Value.slice (some ⟨g, 0, none⟩) (m + 1) c2).ownBlock = some k) wr w3 from (C3.out.mono (fun _ h _ => h.elim)).trans h4 (fun _ h _ => h)); clear h3 h4))
          have HM := hid (HC1.out.trans H4.out (fun i hi hlt => by have q1 := HV2.out.inS i hi; omega))
          have HN := hid (show Vec rgK 46 w3 (fun k => w1.heap.size ≤ k) (fun _ => False) (.slice A3 (m + 1 + 1) c3) (pushAll [] (l.take (k + 1))) by
            rw [HTK.out]
            have q0 := H3.out
            rw [List.append_assoc] at q0
            exact q0.mono (fun j hj _ => by
              rcases hj with hj | hj
              · exact hj
              · have q1 := HC1.out.size; have q2 := C3.out.size; omega) (fun j hj _ => hj))
          go_wp2_with fail
          go_roundw
          case measure => simp [intOf]; omega
          case rel => first | exact ⟨k + 1, by omega, by go_num, HN.out, HM.out⟩ | ((repeat apply Exists.intro); exact ⟨⟨k + 1, by omega, by go_num, HN.out, HM.out⟩, rfl⟩)
    · obtain rfl : k = n := by omega
      have HV2 := hid hV
      have HC2 := hid (HC.out.trans hC (fun _ h _ => h))
      clear hV hC
      have hsp := pushAll_spec (l := l) (out := []) rfl HLR.out HS.out (fun r _ => Int.le_refl _)
      have HSP := hid hsp
      clear hsp
      go_wp2_with fail
      go_ret
      have e1 : l.take l.length = l := List.take_length
      exact ⟨_, _, rfl, by rw [← HLL.out, e1]; exact ⟨HSP.out.1, fun u => by rw [HSP.out.2, has_nil, Bool.false_or, has_perm HP.out], by have := pushAll_len l []; simpa using this⟩, HV2.out.mono (fun k hk _ => Nat.le_trans HC.out.size hk) (fun _ h _ => h), HC2.out⟩
end Go.Proofs.Ytoojifcpjbakgaa.Cl
