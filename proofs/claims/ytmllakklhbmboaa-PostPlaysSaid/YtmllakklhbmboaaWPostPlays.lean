/- The walk of the law PostPlays. -/
import Derived.Test.YtmllakklhbmboaaPostF
import Derived.Test.YtmllakklhbmboaaPostS
import Derived.Test.YtmllakklhbmboaaWPostCuts
import Derived.Test.YtmllakklhbmboaaTypesB
namespace Go.Proofs.Ytmllakklhbmboaa.Po
set_option linter.unusedVariables false
set_option linter.unusedSimpArgs false
open Go.RowKit Go.Proofs.Ytmllakklhbmboaa.C
attribute [local go_sem] max2_int min2_int max_two min_two

structure Op17 where
  kind : Int
  n : Int
  x : Pk
def op17K : Ty Op17 := Ty.iso (Ty.pair (Ty.int .i64) (Ty.pair (Ty.int .i64) pkK)) (fun o => (o.kind, o.n, o.x))
theorem opens38 : Opens Try.prog 38 pkK := opens_struct Try.underlying38 (by kernel_rfl) (opensF_cons rfl rfl opens3 (opensF_cons rfl rfl opens3 (opensF_last rfl rfl opens22))) (fun x : Pk => (x.src, x.dst, x.data)) (fun p => ⟨p.1, p.2.1, p.2.2⟩) (fun _ => rfl)
theorem opens59 : Opens Try.prog 59 op17K := opens_struct Try.underlying59 (by kernel_rfl) (opensF_cons rfl rfl opens3 (opensF_cons rfl rfl opens3 (opensF_last rfl rfl opens38))) (fun o : Op17 => (o.kind, o.n, o.x)) (fun p => ⟨p.1, p.2.1, p.2.2⟩) (fun _ => rfl)
theorem opens56 : Opens Try.prog 56 (Ty.slice op17K) := opens_slice Try.underlying56 (by kernel_rfl) opens59 (by decide)

/-- The state of PostPlays' function: what it was asked. -/
structure Asked (a11 o6 : Nat) (oc : Array Value) (S : Nat → Prop) (asked : List Pk) (w : World) : Prop where
  sa : S a11
  so : S o6
  ba : ∃ v, w.heap[a11]? = some (.cells #[v] 57 (0, 0)) ∧ Vec pkK 38 w S (fun k => S k ∧ k ≠ a11 ∧ k ≠ o6) v asked
  bo : w.heap[o6]? = some (.cells oc 59 (0, 0))
set_option maxHeartbeats 2000000 in
theorem asked_clo (a11 o6 : Nat) (oc : Array Value) (N : Int) (hN : oc[1]? = some (.int .i64 N)) (hne : a11 ≠ o6) : Clo 33 #[.pointer (some ⟨a11, 0, none⟩), .pointer (some ⟨o6, 0, none⟩)] (fun x => x.src == N) (Asked a11 o6 oc) where
  enters := Go.Proofs.enters_of Try.func33 (by kernel_rfl) rfl
  chg := fun h hc hd => by
    obtain ⟨v, h1, h2⟩ := h.ba
    exact ⟨h.sa, h.so, ⟨v, hc.blk h1 (hd _ h.sa (lt_of_blk h1)), h2.chg hc (fun k hk => hd _ (h2.inS k hk) (h2.lt k hk)) (fun k hk _ hl => hd _ hk.1 hl)⟩, hc.blk h.bo (hd _ h.so (lt_of_blk h.bo))⟩
  call := by
    intro S R asked W x A n c h hx hR hl hal
    have H := hid h
    obtain ⟨v, h1, h2⟩ := h.ba
    obtain ⟨B, d, hv⟩ := h2.form
    subst hv
    have HB := hid h1
    have HV := hid h2
    have HX := hid hx.bound
    have HR := hid hR
    have c0 : W.cell? ⟨a11, 0, none⟩ = some (.slice B asked.length d) := by rw [cellAt h1]; rfl
    have c1 : W.cell? ⟨o6, 1, none⟩ = some (.int .i64 N) := by rw [cellAt h.bo]; exact hN
    have f0 := freeAt h1 0
    have hl1 := lt_of_blk h1
    have hl2 := lt_of_blk h.bo
    have hn1 : a11 ≠ W.heap.size := by omega
    have hn2 : o6 ≠ W.heap.size := by omega
    have HAL := hid hal
    obtain ⟨f, t, l⟩ := x
    simp only at HX ⊢
    have C1 := hid (((Chg.refl (fun _ => False) W).alloc (.cells #[.int .i64 f, .int .i64 t, .slice A n c] 38)).alloc (.cells #[.int .i64 f, .int .i64 t, .slice A n c] 38))
    have SEE := hid (show Sees ((W.alloc (.cells #[.int .i64 f, .int .i64 t, .slice A n c] 38)).alloc (.cells #[.int .i64 f, .int .i64 t, .slice A n c] 38)) (fun k => k = W.heap.size + 1) (some ⟨W.heap.size + 1, 0, none⟩) [.int .i64 f, .int .i64 t, .slice A n c] by
      have q := new_sees (W.alloc (.cells #[.int .i64 f, .int .i64 t, .slice A n c] 38)) #[.int .i64 f, .int .i64 t, .slice A n c] 38
      simpa using q)
    clear h h1 h2 hx hR hl hal
    show Calls _ 33 #[_, _, _] _ _
    go_enter Try.func33, Try.ntmps33
    go_wp2_with (first | (at_builtin; refine vec_list (d := pkK) _ rfl (.tmp 5) (.tmp 7) 57 38 (.agg #[.int .i64 0, .int .i64 0, .slice none 0 0]) 40 rfl Try.underlying57 info38 rfl (by decide) (by decide) (.slice B asked.length d) rfl ((HV.out.chg C1.out (fun _ _ h => h) (fun _ _ _ _ h => h)).mono (S' := S) (D' := fun k => (S k ∨ R k) ∧ k ≠ a11 ∧ k ≠ o6) (fun _ h _ => h) (fun k h _ => ⟨.inl h.1, h.2⟩)) (some ⟨W.heap.size + 1, 0, none⟩) 1 1 (ys := [⟨f, t, l⟩]) rfl (by simp) (by omega) rfl SEE.out (Ty.Row.one_ (pk_shut ((HX.out.chg C1.out (fun _ _ h => h)).mono ?side))) (by have := HAL.out; omega) ?_; (case side => (intro k hk; exact ⟨⟨.inr hk.1, fun e => HR.out k hk.1 (by rw [e]; exact H.out.sa), fun e => HR.out k hk.1 (by rw [e]; exact H.out.so)⟩, fun e => HR.out k hk.1 (HV.out.inS k e), by have := hk.2; simp; omega⟩)); intro A3 c3 w3 h3 h4; have H3 := hid h3; have H4 := hid h4; have hb3 := h4.blk (C1.out.blk HB.out (fun h => h)) (HV.out.ne HB.out (by decide)); have HB3 := hid hb3; have f0' := freeAt hb3 0; have c0' := (show w3.cell? ⟨a11, 0, none⟩ = some (.slice B asked.length d) from by rw [cellAt hb3]; rfl); have x0' := (show w3.cell? ⟨W.heap.size, 0, none⟩ = some (.int .i64 f) from by rw [cellAt (h4.blk (blk_alloc (blk_new W _) _) (fun h => by have := HV.out.lt _ h; omega))]; rfl); have c1' := (show w3.cell? ⟨o6, 1, none⟩ = some (.int .i64 N) from h4.cell (C1.out.cell c1 (fun h => h)) (HV.out.ne H.out.bo (by decide))); clear h3 h4 hb3 c0 f0 c1))
    go_ret
    have hb4 := blk_set HB3.out 0 (.slice A3 (asked.length + 1) c3)
    have hs : Chg (fun k => k = a11) w3 (w3.setCell ⟨a11, 0, none⟩ (.slice A3 (asked.length + 1) c3)) := (Chg.refl (fun k => k = a11) w3).set (fun _ => rfl) _
    have hown : ∀ k, (Value.slice A3 (asked.length + 1) c3).ownBlock = some k → k ≠ a11 := fun k hk e => H3.out.ne HB3.out (by decide) (by rw [← e]; exact hk)
    have hsz : W.heap.size ≤ w3.heap.size := Nat.le_trans C1.out.size H4.out.size
    refine ⟨rfl, fun k => S k ∨ (W.heap.size ≤ k ∧ k < (w3.setCell ⟨a11, 0, none⟩ (.slice A3 (asked.length + 1) c3)).heap.size) ∨ R k, ⟨.inl H.out.sa, .inl H.out.so, ⟨_, hb4, (H3.out.chg hs hown (fun k hk _ _ e => hk.2.1 e)).mono (fun k hk hl => ?_) (fun k hk _ => ⟨hk.1.elim .inl (fun h => .inr (.inr h)), hk.2⟩)⟩, ?_⟩, fun k hk => hk, ?_⟩
    · rcases hk with hk | hk
      · exact .inl hk
      · exact .inr (.inl ⟨by simp at hk; omega, hl⟩)
    · exact hs.blk (H4.out.blk (C1.out.blk H.out.bo (fun h => h)) (HV.out.ne H.out.bo (by decide))) (fun e => hne e.symm)
    · exact ((C1.out.mono (fun _ h _ => h.elim)).trans H4.out (fun k hk _ => HV.out.inS k hk)).trans hs (fun k hk _ => by rw [hk]; exact H.out.sa)

structure PlaysAt (w0 : World) (tp k : Nat) (ps : List Pk) (X : Nat → Prop) (v : Value) (wr : World) : Prop where
  lv : LvP w0 wr X tp ps
  l : Vec pkK 38 wr (fun k => X k ∧ w0.heap.size ≤ k) (fun k => k < w0.heap.size) v ps
  len : ps.length ≤ k
  big : ∀ x ∈ ps, x.data.length ≤ 200
set_option maxRecDepth 100000 in
theorem plays_out (w : World) (A : Option Addr) (n c : Nat) (h : 100 < n) :
    Calls Try.prog 10 #[.slice A n c] w fun e w' => e = .returned (.bool true) ∧ Below w.heap.size w w' := by
  have g : (100 : Int) < (n : Int) := by omega
  go_enter Try.func10, Try.ntmps10
  go_wp2_with fail
  refine (anchor_any w).mono ?_
  rintro e w1 ⟨rfl, hb1⟩
  go_wp2_with fail
  go_ret
  exact ⟨rfl, hb1⟩

set_option maxHeartbeats 16000000 in
set_option maxRecDepth 100000 in
theorem plays_in (w : World) (A : Option Addr) (n c : Nat) (ops : List Op17) (ha : Ty.At op17K w (fun k => k < w.heap.size) A n c ops) (h : n ≤ 100) :
    Calls Try.prog 10 #[.slice A n c] w fun e w' => e = .returned (.bool true) ∧ Below w.heap.size w w' := by
  have HA := hid ha
  have HN := hid ha.1
  have g : ¬ (100 : Int) < (n : Int) := by omega
  clear ha
  go_enter Try.func10, Try.ntmps10
  go_wp2_with fail
  refine (anchor_any w).mono ?_
  rintro e w1 ⟨rfl, hb1⟩
  have HB1 := hid hb1
  clear hb1
  go_wp2_with fail
  refine (lp_new w w1 (fun _ => False) HB1.out (fun _ h => h.elim)).mono ?_
  rintro e w2 ⟨rfl, h2, _⟩
  obtain ⟨tp, htp⟩ : ∃ tp, tp = w1.heap.size := ⟨_, rfl⟩
  rw [← htp] at h2 ⊢
  have H2 := hid h2
  clear h2 htp
  go_wp2_with fail
  go_loopw [4, 24] (fun v i wr => ∃ k : Nat, k ≤ n ∧ i = .int .i64 k ∧ ∃ ps X, PlaysAt w tp k ps X v wr) (fun _ i _ => n - (intOf i).toNat)
  case atStart => exact ⟨0, Nat.zero_le _, rfl, [], _, H2.out, Vec.nil _ _ _ _ _, Nat.le_refl _, by simp⟩
  case round =>
    obtain ⟨k, hk, rfl, ps, X, hP⟩ := hrel
    obtain ⟨B, d, hv⟩ := hP.l.form
    subst hv
    have HP := hid hP
    clear hP
    by_cases hlt : k < n
    · have hkl : k < ops.length := by have := HN.out; omega
      obtain ⟨a, cs, ha, hSa, hK, hc⟩ := (HA.out.chg (Chg.of_below HP.out.lv.below) (fun k hk h => by omega)).get (by decide) (List.getElem?_eq_getElem hkl)
      generalize ops[k] = o at hK
      subst ha
      obtain ⟨_, _, rfl, ⟨rfl, wf1⟩, _, _, rfl, ⟨rfl, wf2⟩, hkx⟩ := hK
      obtain ⟨A', m, c', rfl, hx⟩ := pk_open hkx
      obtain ⟨kind, N, x⟩ := o
      have e5 : ∀ j, a.add (k * 5 + (j + 1)) = ⟨(a.add (k * 5)).block, (a.add (k * 5)).off + (j + 1), none⟩ := fun j => by
        rw [← C.add_add]
        generalize a.add (k * 5) = q
        unfold Addr.add
        simp
      have c0 : wr.cell? (a.add (k * 5)) = some (.int .i64 kind) := hc 0 _ rfl
      have c1 : wr.cell? ⟨(a.add (k * 5)).block, (a.add (k * 5)).off + 1, none⟩ = some (.int .i64 N) := by rw [← e5 0]; exact hc 1 _ rfl
      have c2 : wr.cell? ⟨(a.add (k * 5)).block, (a.add (k * 5)).off + 2, none⟩ = some (.int .i64 x.src) := by rw [← e5 1]; exact hc 2 _ rfl
      have c3 : wr.cell? ⟨(a.add (k * 5)).block, (a.add (k * 5)).off + 3, none⟩ = some (.int .i64 x.dst) := by rw [← e5 2]; exact hc 3 _ rfl
      have c4 : wr.cell? ⟨(a.add (k * 5)).block, (a.add (k * 5)).off + 4, none⟩ = some (.slice A' m c') := by rw [← e5 3]; exact hc 4 _ rfl
      simp only at hx
      have HX := hid hx
      have HM := hid hx.2.2.1
      have HWF := hid (wf64 wf2)
      clear hc hSa hx hkx wf1 wf2 e5
      by_cases hm : (200 : Int) < (m : Int)
      · go_wp2_with fail
        go_ret
        exact ⟨rfl, HP.out.lv.below.alloc HP.out.lv.size _⟩
      have HM2 := hid (show x.data.length ≤ 200 by have := HM.out; omega)
      obtain ⟨oc, hoc⟩ : ∃ oc : Array Value, oc = #[.int .i64 kind, .int .i64 N, .int .i64 x.src, .int .i64 x.dst, .slice A' m c'] := ⟨_, rfl⟩
      obtain ⟨wo, hwo⟩ : ∃ wo, wo = wr.alloc (.cells #[.int .i64 kind, .int .i64 N, .int .i64 x.src, .int .i64 x.dst, .slice A' m c'] 59) := ⟨_, rfl⟩
      have CO := hid (show Chg (fun _ => False) wr wo by rw [hwo]; exact (Chg.refl _ wr).alloc _)
      have BO := hid (show wo.heap[wr.heap.size]? = some (.cells #[.int .i64 kind, .int .i64 N, .int .i64 x.src, .int .i64 x.dst, .slice A' m c'] 59 (0, 0)) by rw [hwo]; exact blk_new wr _)
      obtain ⟨o6, ho6⟩ : ∃ o6, o6 = wr.heap.size := ⟨_, rfl⟩
      rw [← ho6] at BO
      have HO6 := hid ho6
      have HLO := hid (show LvP w wo (fun k => X k ∨ k = o6) tp ps from (HP.out.lv.since (CO.out.mono (fun _ h _ => h.elim))).sub (fun k hk => by
        rcases hk with hk | hk
        · exact .inl hk
        · exact .inr ⟨by omega, by have := lt_of_blk BO.out; omega⟩))
      have HVO := hid (HP.out.l.chg CO.out (fun _ _ h => h) (fun _ _ _ _ h => h))
      have HXO := hid (HX.out.chg CO.out (fun _ _ h => h))
      have hlen : ps.length ≤ k := HP.out.len
      have hlen' : (ps.length : Int) ≤ 100 := by omega
      have HFAR := hid (show ∀ k, (X k ∧ w.heap.size ≤ k) → ¬ (w.heap.size ≤ k ∧ ¬ (X k ∨ k = o6)) from fun k h1 h2 => h2.2 (.inl h1.1))
      have z0 : ∀ W M, Chg M wo W → ¬ M o6 → W.cell? ⟨o6, 0, none⟩ = some (.int .i64 kind) ∧ W.cell? ⟨o6, 1, none⟩ = some (.int .i64 N) ∧ W.cell? ⟨o6, 2, none⟩ = some (.int .i64 x.src) ∧ W.cell? ⟨o6, 3, none⟩ = some (.int .i64 x.dst) ∧ W.cell? ⟨o6, 4, none⟩ = some (.slice A' m c') := fun W M hW hM => by
        have hb := hW.blk BO.out hM
        refine ⟨?_, ?_, ?_, ?_, ?_⟩ <;> (rw [cellAt hb]; rfl)
      have HZ := hid z0
      clear z0 hoc ho6
      have hcase : (¬ 0 ≤ N) ∨ (0 ≤ N ∧ ¬ N < (ps.length : Int)) ∨ (0 ≤ N ∧ N < (ps.length : Int)) := by omega
      by_cases k1 : kind = 1
      · subst k1
        --<<k1
        have HSEND := hid (show sendP ps x = (ps ++ [x], 0) by
          unfold sendP
          rw [if_neg (by have := HM2.out; omega), if_neg (by omega)])
        rcases hcase with hc | ⟨hc, hc'⟩ | ⟨hc, hc'⟩
        all_goals
          go_wp2_with fail
          rw [← hwo, ← HO6.out]
          clear hwo
          refine (lp_send x HLO.out HXO.out).mono ?_
          rintro e w3 ⟨rfl, h3, hc3⟩
          rw [HSEND.out] at h3 ⊢
          have H3 := hid h3
          obtain ⟨y0, y1, y2, y3, y4⟩ := HZ.out w3 _ hc3 (fun h => h.2 (.inr rfl))
          have HV3 := hid (HVO.out.chg hc3 (fun k hk => HFAR.out k (HVO.out.inS k hk)) (fun k hk _ _ h => by omega))
          have HX3 := hid ((HXO.out.chg hc3 (fun k hk h => by omega)).bound.mono (S' := fun k => k < w.heap.size) (fun k hk => hk.1))
          have CA := hid ((Chg.refl (fun _ => False) w3).alloc (.cells #[.int .i64 x.src, .int .i64 x.dst, .slice A' m c'] 38))
          have HSEE := hid (new_sees w3 #[.int .i64 x.src, .int .i64 x.dst, .slice A' m c'] 38)
          have HSZ := hid (show w.heap.size ≤ w3.heap.size from H3.out.size)
          clear h3 hc3 c0 c1 c2 c3 c4
          go_wp2_with (first | (at_builtin; refine vec_list (d := pkK) _ rfl (.tmp 52) (.tmp 55) 57 38 (.agg #[.int .i64 0, .int .i64 0, .slice none 0 0]) 40 rfl Try.underlying57 info38 rfl (by decide) (by decide) (.slice B ps.length d) rfl (HV3.out.chg CA.out (fun _ _ h => h) (fun _ _ _ _ h => h)) (some ⟨w3.heap.size, 0, none⟩) 1 1 (ys := [x]) rfl (by simp) (by omega) rfl HSEE.out (Ty.Row.one_ (pk_shut ((HX3.out.chg CA.out (fun _ _ h => h)).mono ?side))) (by omega) ?_; (case side => (intro k' hk'; exact ⟨hk', fun e => (by have := (HV3.out.inS k' e).2; omega), by have := HSZ.out; simp; omega⟩)); intro A5 c5 w5 h5 h6; have H5 := hid h5; have H6 := hid h6; clear h5 h6))
          obtain ⟨ps', hps'⟩ : ∃ ps', ps' = ps ++ [x] := ⟨_, rfl⟩
          have hl5 : ps.length + 1 = ps'.length := by rw [hps']; simp
          have HL5 := hid (H3.out.since (((Chg.refl (fun k => (X k ∨ k = o6) ∧ w.heap.size ≤ k) w3).alloc _).trans H6.out (fun k hk _ => ⟨.inl (HV3.out.inS k hk).1, (HV3.out.inS k hk).2⟩)))
          have HV5 := hid (H5.out.mono (S' := fun k => ((X k ∨ k = o6) ∨ (w3.heap.size ≤ k ∧ k < w5.heap.size)) ∧ w.heap.size ≤ k) (fun k hk hl => by
            rcases hk with hk | hk
            · exact ⟨.inl (.inl hk.1), hk.2⟩
            · have q := HSZ.out
              simp at hk
              exact ⟨.inr ⟨by omega, hl⟩, by omega⟩) (fun k hk _ => hk))
          have HLEN5 := hid (show ps'.length ≤ k + 1 by omega)
          have HBIG5 := hid (show ∀ y ∈ ps', y.data.length ≤ 200 from fun y hy => by
            rw [hps'] at hy
            rcases List.mem_append.1 hy with hy | hy
            · exact HP.out.big y hy
            · rw [List.mem_singleton.1 hy]; exact HM2.out)
          rw [← hps', hl5] at HV5
          rw [← hps'] at HL5
          rw [hl5]
          clear hl5 hps' y0 y1 y2 y3 y4
          go_wp2_with fail
          refine (lp_len HL5.out).mono ?_
          rintro e w8 ⟨rfl, rfl⟩
          go_wp2_with fail
          refine (lp_all HL5.out).mono ?_
          rintro e w8 ⟨A8, c8, rfl, hv8, hc8⟩
          have HL8 := hid (HL5.out.new hc8)
          have HV8 := hid (HV5.out.chg hc8 (fun _ _ h => h) (fun _ _ _ _ h => h))
          have HW8 := hid hv8
          clear hv8 hc8
          go_wp2_with fail
          refine (alike_any HW8.out.at HV8.out.at (by have := HLEN5.out; omega)).mono ?_
          rintro e w9 ⟨rfl, hc9⟩
          have HR := hid (show PlaysAt w tp (k + 1) _ _ _ w9 from ⟨HL8.out.new hc9, HV8.out.chg hc9 (fun _ _ h => h) (fun _ _ _ _ h => h), HLEN5.out, HBIG5.out⟩)
          clear hc9
          go_wp2_with fail
          go_roundw
          case measure => simp [intOf]; omega
          case rel => first | exact ⟨k + 1, by omega, by go_num, _, _, HR.out⟩ | ((repeat apply Exists.intro); exact ⟨⟨k + 1, by omega, by go_num, _, _, HR.out⟩, rfl⟩)
        -->>k1
      by_cases k2 : kind = 2
      · subst k2
        by_cases hth : 0 ≤ N ∧ N < (ps.length : Int)
        · --<<k2y
          obtain ⟨i, rfl⟩ := Int.eq_ofNat_of_zero_le hth.1
          have hi : i < ps.length := by omega
          obtain ⟨g2, cs, hB, hS2, hg2, hK, hcc⟩ := HVO.out.get (by decide) (List.getElem?_eq_getElem hi)
          obtain ⟨A2, n2, c2', rfl, hx2⟩ := pk_open hK
          subst hB
          have HPK := hid (pickP_yes hi)
          have HB2 := hid (HP.out.big _ (List.getElem_mem hi))
          generalize ps[i] = x0 at hx2 hcc HPK HB2
          have HX2 := hid hx2
          have q0 : wo.cell? ⟨g2, i * 3, none⟩ = some (.int .i64 x0.src) := hcc 0 _ rfl
          have q1 : wo.cell? ⟨g2, i * 3 + 1, none⟩ = some (.int .i64 x0.dst) := hcc 1 _ rfl
          have q2 : wo.cell? ⟨g2, i * 3 + 2, none⟩ = some (.slice A2 n2 c2') := hcc 2 _ rfl
          have HQ := hid (And.intro q0 (And.intro q1 q2))
          have HG2 := hid hS2
          have hth1 : (0 : Int) ≤ (i : Int) := hth.1
          have hth2 : (i : Int) < (ps.length : Int) := hth.2
          clear hcase hth hx2 hcc hK q0 q1 q2 hS2
          have HTAKE := hid (show takeP ps (i : Int) = (ps.eraseIdx i, some x0) by unfold takeP; rw [HPK.out]; simp)
          go_wp2_with fail
          rw [← hwo, ← HO6.out]
          clear hwo
          refine (lp_take (i : Int) HLO.out).mono ?_
          rintro e w3 ⟨A4, n4, cc4, rfl, hx4, h4, hc4⟩
          rw [HTAKE.out] at h4 hx4 ⊢
          have H4 := hid h4
          have HX4 := hid hx4
          have HV3 := hid (HVO.out.chg hc4 (fun k hk => HFAR.out k (HVO.out.inS k hk)) (fun k hk _ _ h => by omega))
          obtain ⟨y0, y1, y2, y3, y4⟩ := HZ.out w3 _ hc4 (fun h => h.2 (.inr rfl))
          have r0 : w3.cell? ⟨g2, i * 3, none⟩ = some (.int .i64 x0.src) := hc4.cell HQ.out.1 (HFAR.out _ HG2.out)
          have r1 : w3.cell? ⟨g2, i * 3 + 1, none⟩ = some (.int .i64 x0.dst) := hc4.cell HQ.out.2.1 (HFAR.out _ HG2.out)
          have r2 : w3.cell? ⟨g2, i * 3 + 2, none⟩ = some (.slice A2 n2 c2') := hc4.cell HQ.out.2.2 (HFAR.out _ HG2.out)
          have HX3 := hid ((HX2.out.chg hc4 (fun k hk h => by omega)))
          simp only [Option.getD_some, Option.isSome_some, if_true]
          clear h4 hx4 hc4 c0 c1 c2 c3 c4
          obtain ⟨w4, hw4⟩ : ∃ w4, w4 = w3.alloc (.cells #[.int .i64 x0.src, .int .i64 x0.dst, .slice A4 n4 cc4] 38) := ⟨_, rfl⟩
          have C4 := hid (show Chg (fun _ => False) w3 w4 by rw [hw4]; exact (Chg.refl _ w3).alloc _)
          have B4 := hid (show w4.heap[w3.heap.size]? = some (.cells #[.int .i64 x0.src, .int .i64 x0.dst, .slice A4 n4 cc4] 38 (0, 0)) by rw [hw4]; exact blk_new w3 _)
          have s0 : ∀ wx, Chg (fun _ => False) w4 wx → wx.cell? ⟨w3.heap.size, 0, none⟩ = some (.int .i64 x0.src) := fun wx h => h.cell (by rw [cellAt B4.out]; rfl) (fun h => h)
          have s1 : ∀ wx, Chg (fun _ => False) w4 wx → wx.cell? ⟨w3.heap.size, 1, none⟩ = some (.int .i64 x0.dst) := fun wx h => h.cell (by rw [cellAt B4.out]; rfl) (fun h => h)
          have s2 : ∀ wx, Chg (fun _ => False) w4 wx → wx.cell? ⟨w3.heap.size, 2, none⟩ = some (.slice A4 n4 cc4) := fun wx h => h.cell (by rw [cellAt B4.out]; rfl) (fun h => h)
          have t0 : ∀ wx, Chg (fun _ => False) w4 wx → wx.cell? ⟨g2, i * 3, none⟩ = some (.int .i64 x0.src) := fun wx h => h.cell (C4.out.cell r0 (fun h => h)) (fun h => h)
          have t1 : ∀ wx, Chg (fun _ => False) w4 wx → wx.cell? ⟨g2, i * 3 + 1, none⟩ = some (.int .i64 x0.dst) := fun wx h => h.cell (C4.out.cell r1 (fun h => h)) (fun h => h)
          have t2 : ∀ wx, Chg (fun _ => False) w4 wx → wx.cell? ⟨g2, i * 3 + 2, none⟩ = some (.slice A2 n2 c2') := fun wx h => h.cell (C4.out.cell r2 (fun h => h)) (fun h => h)
          have u1 : ∀ wx, Chg (fun _ => False) w4 wx → wx.cell? ⟨o6, 1, none⟩ = some (.int .i64 (i : Int)) := fun wx h => h.cell (C4.out.cell y1 (fun h => h)) (fun h => h)
          clear r0 r1 r2 y0 y1 y2 y3 y4
          go_wp2_with fail
          rw [← hw4]
          clear hw4
          refine wpB_start (fun wx : World => Chg (fun _ => False) w4 wx) (by kernel_rfl) ?_
          have hHeld : (fun wx : World => Chg (fun _ => False) w4 wx) _ := (by first | assumption | exact Chg.drew (Chg.refl _ _) | (show _ ∧ _; refine ⟨?_, ?_⟩ <;> assumption) | (first | assumption | exact hHeld.trans h6 (fun _ h _ => h)))
          -- 0: t76 := move t9 : 26
          refine wpB_take (i := 0) (v := ?_) (get_of_drop rfl) (by kernel_rfl) (by kernel_rfl) (by kernel_rfl) (by kernel_rfl) (fun _ _ _ h => h) (Or.inl ⟨by rfl, ?_⟩) hHeld ?_
          rotate_left
          · (intro w hSw; (try dsimp only at hSw); go_simp <;> with_reducible rfl)
          try simp only [Act.put, List.setIfInBounds_toArray, List.set_cons_zero, List.set_cons_succ]
          -- 1: t77 := binOp BinOp.neq 26 t76 #i64:0 26 : 4
          refine wpB_take (i := 1) (v := ?_) (get_of_drop rfl) (by kernel_rfl) (by kernel_rfl) (by kernel_rfl) (by kernel_rfl) (fun _ _ _ h => h) (Or.inl ⟨by rfl, ?_⟩) hHeld ?_
          rotate_left
          · (intro w hSw; (try dsimp only at hSw); go_simp <;> with_reducible rfl)
          try simp only [Act.put, List.setIfInBounds_toArray, List.set_cons_zero, List.set_cons_succ]
          -- 2: t78 := move t77 : 4
          refine wpB_take (i := 2) (v := ?_) (get_of_drop rfl) (by kernel_rfl) (by kernel_rfl) (by kernel_rfl) (by kernel_rfl) (fun _ _ _ h => h) (Or.inl ⟨by rfl, ?_⟩) hHeld ?_
          rotate_left
          · (intro w hSw; (try dsimp only at hSw); go_simp <;> with_reducible rfl)
          try simp only [Act.put, List.setIfInBounds_toArray, List.set_cons_zero, List.set_cons_succ]
          -- 3: t79 := load 38 t8 : 38   [if ⟨2, false⟩]
          refine wpB_take (i := 3) (v := ?_) (get_of_drop rfl) (by kernel_rfl) (by kernel_rfl) (by kernel_rfl) (by kernel_rfl) (fun _ _ _ h => h) (Or.inl ⟨by rfl, ?_⟩) hHeld ?_
          rotate_left
          · (intro w hSw; (try dsimp only at hSw); go_simp <;> with_reducible rfl)
          try simp only [Act.put, List.setIfInBounds_toArray, List.set_cons_zero, List.set_cons_succ]
          -- 4: t80 := move t4 : 57   [if ⟨2, false⟩]
          refine wpB_take (i := 4) (v := ?_) (get_of_drop rfl) (by kernel_rfl) (by kernel_rfl) (by kernel_rfl) (by kernel_rfl) (fun _ _ _ h => h) (Or.inl ⟨by rfl, ?_⟩) hHeld ?_
          rotate_left
          · (intro w hSw; (try dsimp only at hSw); go_simp <;> with_reducible rfl)
          try simp only [Act.put, List.setIfInBounds_toArray, List.set_cons_zero, List.set_cons_succ]
          -- 5: t81 := fieldAddr 59 t6 1 : 0   [if ⟨2, false⟩]
          refine wpB_take (i := 5) (v := ?_) (get_of_drop rfl) (by kernel_rfl) (by kernel_rfl) (by kernel_rfl) (by kernel_rfl) (fun _ _ _ h => h) (Or.inl ⟨by rfl, ?_⟩) hHeld ?_
          rotate_left
          · (intro w hSw; (try dsimp only at hSw); go_simp <;> with_reducible rfl)
          try simp only [Act.put, List.setIfInBounds_toArray, List.set_cons_zero, List.set_cons_succ]
          -- 6: t82 := load 3 t81 : 3   [if ⟨2, false⟩]
          refine wpB_take (i := 6) (v := ?_) (get_of_drop rfl) (by kernel_rfl) (by kernel_rfl) (by kernel_rfl) (by kernel_rfl) (fun _ _ _ h => h) (Or.inl ⟨by rfl, ?_⟩) hHeld ?_
          rotate_left
          · (intro w hSw; (try dsimp only at hSw); go_simp <;> with_reducible rfl)
          try simp only [Act.put, List.setIfInBounds_toArray, List.set_cons_zero, List.set_cons_succ]
          -- 7: t83 := indexAddr 57 t80 t82 : 0   [if ⟨2, false⟩]
          refine wpB_take (i := 7) (v := ?_) (get_of_drop rfl) (by kernel_rfl) (by kernel_rfl) (by kernel_rfl) (by kernel_rfl) (fun _ _ _ h => h) (Or.inl ⟨by rfl, ?_⟩) hHeld ?_
          rotate_left
          · (intro w hSw; (try dsimp only at hSw); go_simp <;> with_reducible rfl)
          try simp only [Act.put, List.setIfInBounds_toArray, List.set_cons_zero, List.set_cons_succ]
          -- 8: t84 := load 38 t83 : 38   [if ⟨2, false⟩]
          refine wpB_take (i := 8) (v := ?_) (get_of_drop rfl) (by kernel_rfl) (by kernel_rfl) (by kernel_rfl) (by kernel_rfl) (fun _ _ _ h => h) (Or.inl ⟨by rfl, ?_⟩) hHeld ?_
          rotate_left
          · (intro w hSw; (try dsimp only at hSw); go_simp <;> with_reducible rfl)
          try simp only [Act.put, List.setIfInBounds_toArray, List.set_cons_zero, List.set_cons_succ]
          -- 9: t85 := CALL fn30(t79, t84) : 4   [if ⟨2, false⟩]
          refine wpB_act (i := 9) (by kernel_rfl) (get_of_drop rfl) (fun K hK => ?_)
          go_simp
          refine (same_any (HX4.out.chg (C4.out.drew) (fun _ _ h => h)) (HX3.out.chg (C4.out.drew) (fun _ _ h => h))).mono ?_
          rintro e w6 ⟨rfl, h6⟩
          refine hK.out _ _ ?_ (fun hHeld2 => ?_)
          · (first | assumption | exact hHeld.trans h6 (fun _ h _ => h))
          clear hHeld hK K
          have hHeld := hHeld2
          clear hHeld2
          try simp only [Act.put, List.setIfInBounds_toArray, List.set_cons_zero, List.set_cons_succ]
          -- 10: t86 := unOp UnOp.not 4 t85 : 4   [if ⟨2, false⟩]
          refine wpB_take (i := 10) (v := ?_) (get_of_drop rfl) (by kernel_rfl) (by kernel_rfl) (by kernel_rfl) (by kernel_rfl) (fun _ _ _ h => h) (Or.inl ⟨by rfl, ?_⟩) hHeld ?_
          rotate_left
          · (intro w hSw; (try dsimp only at hSw); go_simp <;> with_reducible rfl)
          try simp only [Act.put, List.setIfInBounds_toArray, List.set_cons_zero, List.set_cons_succ]
          -- 11: t87 := pick t78 #true t86 : 4
          refine wpB_take (i := 11) (v := ?_) (get_of_drop rfl) (by kernel_rfl) (by kernel_rfl) (by kernel_rfl) (by kernel_rfl) (fun _ _ _ h => h) (Or.inl ⟨by rfl, ?_⟩) hHeld ?_
          rotate_left
          · (intro w hSw; (try dsimp only at hSw); go_simp <;> with_reducible rfl)
          try simp only [Act.put, List.setIfInBounds_toArray, List.set_cons_zero, List.set_cons_succ]
          refine wpB_done (by kernel_rfl) ?_ _
          have HH := hid hHeld
          have v1 := u1 _ hHeld
          clear hHeld h6 s0 s1 s2 t0 t1 t2 u1
          go_wp2_with fail
          refine (without_any (HV3.out.chg (C4.out.trans HH.out (fun _ h _ => h)) (fun _ _ h => h) (fun _ _ _ _ h => h)) hi (by omega)).mono ?_
          rintro e w7 ⟨v7, rfl, hv7, hc7⟩
          obtain ⟨A7, c7, hvv⟩ := hv7.form
          subst hvv
          have HC7 := hid ((C4.out.trans HH.out (fun _ h _ => h)).trans hc7 (fun _ h _ => h))
          have hsz7 : w.heap.size ≤ w3.heap.size := H4.out.size
          have HL5 := hid (H4.out.since (HC7.out.mono (fun _ h _ => h.elim)))
          have HV5 := hid (hv7.mono (S' := fun k => ((X k ∨ k = o6) ∨ (w3.heap.size ≤ k ∧ k < w7.heap.size)) ∧ w.heap.size ≤ k) (fun k hk hl => by
            have q := (C4.out.trans HH.out (fun _ h _ => h)).size
            exact ⟨.inr ⟨by omega, hl⟩, by omega⟩) (fun k hk _ => hk))
          have HLEN5 := hid (show (ps.eraseIdx i).length ≤ k + 1 by have := List.length_eraseIdx_le ps i; omega)
          have HBIG5 := hid (show ∀ y ∈ ps.eraseIdx i, y.data.length ≤ 200 from fun y hy => HP.out.big y (List.mem_of_mem_eraseIdx hy))
          obtain ⟨ps', hps'⟩ : ∃ ps', ps' = ps.eraseIdx i := ⟨_, rfl⟩
          rw [← hps'] at HL5 HV5 HLEN5 HBIG5 ⊢
          clear hps' hv7 hc7 v1
          go_wp2_with fail
          refine (lp_len HL5.out).mono ?_
          rintro e w8 ⟨rfl, rfl⟩
          go_wp2_with fail
          refine (lp_all HL5.out).mono ?_
          rintro e w8 ⟨A8, c8, rfl, hv8, hc8⟩
          have HL8 := hid (HL5.out.new hc8)
          have HV8 := hid (HV5.out.chg hc8 (fun _ _ h => h) (fun _ _ _ _ h => h))
          have HW8 := hid hv8
          clear hv8 hc8
          go_wp2_with fail
          refine (alike_any HW8.out.at HV8.out.at (by have := HLEN5.out; omega)).mono ?_
          rintro e w9 ⟨rfl, hc9⟩
          have HR := hid (show PlaysAt w tp (k + 1) _ _ _ w9 from ⟨HL8.out.new hc9, HV8.out.chg hc9 (fun _ _ h => h) (fun _ _ _ _ h => h), HLEN5.out, HBIG5.out⟩)
          clear hc9
          go_wp2_with fail
          go_roundw
          case measure => simp [intOf]; omega
          case rel => first | exact ⟨k + 1, by omega, by go_num, _, _, HR.out⟩ | ((repeat apply Exists.intro); exact ⟨⟨k + 1, by omega, by go_num, _, _, HR.out⟩, rfl⟩)
          -->>k2y
        · --<<k2n
          have HTAKE := hid (show takeP ps N = (ps, none) by unfold takeP; rw [pickP_no hth])
          have hcase2 : (¬ 0 ≤ N) ∨ (0 ≤ N ∧ ¬ N < (ps.length : Int)) := by omega
          clear hcase hth
          rcases hcase2 with hc | ⟨hc, hc'⟩
          all_goals
            go_wp2_with fail
            rw [← hwo, ← HO6.out]
            clear hwo
            refine (lp_take N HLO.out).mono ?_
            rintro e w3 ⟨A4, n4, cc4, rfl, hx4, h4, hc4⟩
            rw [HTAKE.out] at h4 hx4 ⊢
            have H4 := hid h4
            have HX4 := hid hx4
            have HV4 := hid (HVO.out.chg hc4 (fun k hk => HFAR.out k (HVO.out.inS k hk)) (fun k hk _ _ h => by omega))
            clear h4 hx4 hc4 c0 c1 c2 c3 c4
            go_wp2_with fail
            refine (same_any (R' := fun _ => False) (HX4.out.chg ((Chg.refl (fun _ => False) w3).alloc (.cells #[.int .i64 0, .int .i64 0, .slice A4 n4 cc4] 38)) (fun _ _ h => h)) ⟨rfl, rfl, rfl, Nat.le_refl _, by simp [maxLen], fun _ => rfl, [], .nil _ _ _, Ty.Row.nil _ _ _⟩).mono ?_
            rintro e w5 ⟨rfl, hc5⟩
            have C5 := hid (((Chg.refl (fun _ => False) w3).alloc (.cells #[.int .i64 0, .int .i64 0, .slice A4 n4 cc4] 38)).trans hc5 (fun _ h _ => h))
            have HR := hid (show PlaysAt w tp (k + 1) ps (fun k => X k ∨ k = o6) (.slice B ps.length d) w5 from ⟨H4.out.new C5.out, (HV4.out.chg C5.out (fun _ _ h => h) (fun _ _ _ _ h => h)).mono (fun k hk _ => ⟨.inl hk.1, hk.2⟩) (fun k hk _ => hk), by omega, HP.out.big⟩)
            clear hc5
            go_wp2_with fail
            go_roundw
            case measure => simp [intOf]; omega
            case rel => first | exact ⟨k + 1, by omega, by go_num, _, _, HR.out⟩ | ((repeat apply Exists.intro); exact ⟨⟨k + 1, by omega, by go_num, _, _, HR.out⟩, rfl⟩)
          -->>k2n
      by_cases k3 : kind = 3
      · subst k3
        by_cases hth : 0 ≤ N ∧ N < (ps.length : Int)
        · --<<k3y
          obtain ⟨i, rfl⟩ := Int.eq_ofNat_of_zero_le hth.1
          have hi : i < ps.length := by omega
          obtain ⟨g2, cs, hB, hS2, hg2, hK, hcc⟩ := HVO.out.get (by decide) (List.getElem?_eq_getElem hi)
          obtain ⟨A2, n2, c2', rfl, hx2⟩ := pk_open hK
          subst hB
          have HPK := hid (pickP_yes hi)
          have HB2 := hid (HP.out.big _ (List.getElem_mem hi))
          generalize ps[i] = x0 at hx2 hcc HPK HB2
          have HX2 := hid hx2
          have q0 : wo.cell? ⟨g2, i * 3, none⟩ = some (.int .i64 x0.src) := hcc 0 _ rfl
          have q1 : wo.cell? ⟨g2, i * 3 + 1, none⟩ = some (.int .i64 x0.dst) := hcc 1 _ rfl
          have q2 : wo.cell? ⟨g2, i * 3 + 2, none⟩ = some (.slice A2 n2 c2') := hcc 2 _ rfl
          have HQ := hid (And.intro q0 (And.intro q1 q2))
          have HG2 := hid hS2
          have hth1 : (0 : Int) ≤ (i : Int) := hth.1
          have hth2 : (i : Int) < (ps.length : Int) := hth.2
          clear hcase hth hx2 hcc hK q0 q1 q2 hS2
          have HCOPY := hid (show copyP ps (i : Int) = (ps ++ [x0], 0) by
            unfold copyP
            rw [HPK.out]
            show sendP ps x0 = _
            unfold sendP
            rw [if_neg (by have := HB2.out; omega), if_neg (by omega)])
          go_wp2_with fail
          rw [← hwo, ← HO6.out]
          clear hwo
          refine (lp_copy (i : Int) HLO.out).mono ?_
          rintro e w3 ⟨rfl, h4, hc4⟩
          rw [HCOPY.out] at h4 ⊢
          have H3 := hid h4
          have HV3 := hid (HVO.out.chg hc4 (fun k hk => HFAR.out k (HVO.out.inS k hk)) (fun k hk _ _ h => by omega))
          obtain ⟨y0, y1, y2, y3, y4⟩ := HZ.out w3 _ hc4 (fun h => h.2 (.inr rfl))
          have r0 : w3.cell? ⟨g2, i * 3, none⟩ = some (.int .i64 x0.src) := hc4.cell HQ.out.1 (HFAR.out _ HG2.out)
          have r1 : w3.cell? ⟨g2, i * 3 + 1, none⟩ = some (.int .i64 x0.dst) := hc4.cell HQ.out.2.1 (HFAR.out _ HG2.out)
          have r2 : w3.cell? ⟨g2, i * 3 + 2, none⟩ = some (.slice A2 n2 c2') := hc4.cell HQ.out.2.2 (HFAR.out _ HG2.out)
          have HX3 := hid ((HX2.out.chg hc4 (fun k hk h => by omega)).mono (S' := fun k => k < w.heap.size) (fun k hk => hk.1))
          have CA := hid ((Chg.refl (fun _ => False) w3).alloc (.cells #[.int .i64 x0.src, .int .i64 x0.dst, .slice A2 n2 c2'] 38))
          have HSEE := hid (new_sees w3 #[.int .i64 x0.src, .int .i64 x0.dst, .slice A2 n2 c2'] 38)
          have HSZ := hid (show w.heap.size ≤ w3.heap.size from H3.out.size)
          clear h4 hc4 c0 c1 c2 c3 c4
          go_wp2_with (first | (at_builtin; refine vec_list (d := pkK) _ rfl (.tmp 111) (.tmp 117) 57 38 (.agg #[.int .i64 0, .int .i64 0, .slice none 0 0]) 40 rfl Try.underlying57 info38 rfl (by decide) (by decide) (.slice (some ⟨g2, 0, none⟩) ps.length d) rfl (HV3.out.chg CA.out (fun _ _ h => h) (fun _ _ _ _ h => h)) (some ⟨w3.heap.size, 0, none⟩) 1 1 (ys := [x0]) rfl (by simp) (by omega) rfl HSEE.out (Ty.Row.one_ (pk_shut ((HX3.out.chg CA.out (fun _ _ h => h)).mono ?side))) (by omega) ?_; (case side => (intro k' hk'; exact ⟨hk', fun e => (by have := (HV3.out.inS k' e).2; omega), by have := HSZ.out; simp; omega⟩)); intro A5 c5 w5 h5 h6; have H5 := hid h5; have H6 := hid h6; clear h5 h6))
          obtain ⟨ps', hps'⟩ : ∃ ps', ps' = ps ++ [x0] := ⟨_, rfl⟩
          have hl5 : ps.length + 1 = ps'.length := by rw [hps']; simp
          have HL5 := hid (H3.out.since (((Chg.refl (fun k => (X k ∨ k = o6) ∧ w.heap.size ≤ k) w3).alloc _).trans H6.out (fun k hk _ => ⟨.inl (HV3.out.inS k hk).1, (HV3.out.inS k hk).2⟩)))
          have HV5 := hid (H5.out.mono (S' := fun k => ((X k ∨ k = o6) ∨ (w3.heap.size ≤ k ∧ k < w5.heap.size)) ∧ w.heap.size ≤ k) (fun k hk hl => by
            rcases hk with hk | hk
            · exact ⟨.inl (.inl hk.1), hk.2⟩
            · have q := HSZ.out
              simp at hk
              exact ⟨.inr ⟨by omega, hl⟩, by omega⟩) (fun k hk _ => hk))
          have HLEN5 := hid (show ps'.length ≤ k + 1 by omega)
          have HBIG5 := hid (show ∀ y ∈ ps', y.data.length ≤ 200 from fun y hy => by
            rw [hps'] at hy
            rcases List.mem_append.1 hy with hy | hy
            · exact HP.out.big y hy
            · rw [List.mem_singleton.1 hy]; exact HB2.out)
          rw [← hps', hl5] at HV5
          rw [← hps'] at HL5
          rw [hl5]
          clear hl5 hps' y0 y1 y2 y3 y4 r0 r1 r2
          go_wp2_with fail
          refine (lp_len HL5.out).mono ?_
          rintro e w8 ⟨rfl, rfl⟩
          go_wp2_with fail
          refine (lp_all HL5.out).mono ?_
          rintro e w8 ⟨A8, c8, rfl, hv8, hc8⟩
          have HL8 := hid (HL5.out.new hc8)
          have HV8 := hid (HV5.out.chg hc8 (fun _ _ h => h) (fun _ _ _ _ h => h))
          have HW8 := hid hv8
          clear hv8 hc8
          go_wp2_with fail
          refine (alike_any HW8.out.at HV8.out.at (by have := HLEN5.out; omega)).mono ?_
          rintro e w9 ⟨rfl, hc9⟩
          have HR := hid (show PlaysAt w tp (k + 1) _ _ _ w9 from ⟨HL8.out.new hc9, HV8.out.chg hc9 (fun _ _ h => h) (fun _ _ _ _ h => h), HLEN5.out, HBIG5.out⟩)
          clear hc9
          go_wp2_with fail
          go_roundw
          case measure => simp [intOf]; omega
          case rel => first | exact ⟨k + 1, by omega, by go_num, _, _, HR.out⟩ | ((repeat apply Exists.intro); exact ⟨⟨k + 1, by omega, by go_num, _, _, HR.out⟩, rfl⟩)
          -->>k3y
        · --<<k3n
          have HCOPY := hid (show copyP ps N = (ps, 60) by unfold copyP; rw [pickP_no hth])
          have hcase2 : (¬ 0 ≤ N) ∨ (0 ≤ N ∧ ¬ N < (ps.length : Int)) := by omega
          clear hcase hth
          rcases hcase2 with hc | ⟨hc, hc'⟩
          all_goals
            go_wp2_with fail
            rw [← hwo, ← HO6.out]
            clear hwo
            refine (lp_copy N HLO.out).mono ?_
            rintro e w3 ⟨rfl, h4, hc4⟩
            rw [HCOPY.out] at h4 ⊢
            have HL5 := hid h4
            have HV5 := hid ((HVO.out.chg hc4 (fun k hk => HFAR.out k (HVO.out.inS k hk)) (fun k hk _ _ h => by omega)).mono (S' := fun k => (X k ∨ k = o6) ∧ w.heap.size ≤ k) (fun k hk _ => ⟨.inl hk.1, hk.2⟩) (fun k hk _ => hk))
            have HLEN5 := hid (show ps.length ≤ k + 1 by omega)
            have HBIG5 := hid HP.out.big
            clear h4 hc4 c0 c1 c2 c3 c4
            go_wp2_with fail
            refine (lp_len HL5.out).mono ?_
            rintro e w8 ⟨rfl, rfl⟩
            go_wp2_with fail
            refine (lp_all HL5.out).mono ?_
            rintro e w8 ⟨A8, c8, rfl, hv8, hc8⟩
            have HL8 := hid (HL5.out.new hc8)
            have HV8 := hid (HV5.out.chg hc8 (fun _ _ h => h) (fun _ _ _ _ h => h))
            have HW8 := hid hv8
            clear hv8 hc8
            go_wp2_with fail
            refine (alike_any HW8.out.at HV8.out.at (by have := HLEN5.out; omega)).mono ?_
            rintro e w9 ⟨rfl, hc9⟩
            have HR := hid (show PlaysAt w tp (k + 1) _ _ _ w9 from ⟨HL8.out.new hc9, HV8.out.chg hc9 (fun _ _ h => h) (fun _ _ _ _ h => h), HLEN5.out, HBIG5.out⟩)
            clear hc9
            go_wp2_with fail
            go_roundw
            case measure => simp [intOf]; omega
            case rel => first | exact ⟨k + 1, by omega, by go_num, _, _, HR.out⟩ | ((repeat apply Exists.intro); exact ⟨⟨k + 1, by omega, by go_num, _, _, HR.out⟩, rfl⟩)
          -->>k3n
      by_cases k4 : kind = 4
      · subst k4
        --<<k4
        obtain ⟨p, hp⟩ : ∃ p : Pk → Bool, p = fun x => x.src == N := ⟨_, rfl⟩
        have HPD := hid hp
        have hszo : wo.heap.size = o6 + 1 := by rw [hwo, HO6.out]; simp
        have HLA := hid (show ∀ wa, wa = wo.alloc (.cells #[.slice none 0 0] 57) → LvP w wa (fun k => X k ∨ k = o6 ∨ k = o6 + 1) tp ps ∧ Asked (o6 + 1) o6 #[.int .i64 4, .int .i64 N, .int .i64 x.src, .int .i64 x.dst, .slice A' m c'] (fun k => k = o6 + 1 ∨ k = o6) [] wa ∧ Chg (fun _ => False) wo wa from fun wa hwa => by
          have ca : Chg (fun _ => False) wo wa := by rw [hwa]; exact (Chg.refl _ wo).alloc _
          have ba : wa.heap[o6 + 1]? = some (.cells #[.slice none 0 0] 57 (0, 0)) := by
            have q := blk_new wo (.cells #[.slice none 0 0] 57)
            rw [hszo, ← hwa] at q
            exact q
          refine ⟨(HLO.out.since (ca.mono (fun _ h _ => h.elim))).sub (fun k hk => ?_), ⟨.inl rfl, .inr rfl, ⟨_, ba, Vec.nil _ _ _ _ _⟩, ca.blk BO.out (fun h => h)⟩, ca⟩
          rcases hk with hk | hk | hk
          · exact .inl (.inl hk)
          · exact .inl (.inr hk)
          · exact .inr ⟨by omega, by have := lt_of_blk ba; omega⟩)
        have HCLO := hid (asked_clo (o6 + 1) o6 #[.int .i64 4, .int .i64 N, .int .i64 x.src, .int .i64 x.dst, .slice A' m c'] N rfl (by omega))
        rw [← hp] at HCLO
        have HSO := hid (show w.heap.size ≤ o6 by have := HP.out.lv.size; have := HO6.out; omega)
        clear hszo hp
        rcases hcase with hc | ⟨hc, hc'⟩ | ⟨hc, hc'⟩
        all_goals
          go_wp2_with fail
          rw [← hwo, ← HO6.out]
          clear hwo
          obtain ⟨wa, hwa⟩ : ∃ wa, wa = wo.alloc (.cells #[.slice none 0 0] 57) := ⟨_, rfl⟩
          rw [← hwa]
          have HWA := hid (HLA.out wa hwa)
          clear hwa
          refine (lp_cut HCLO.out HWA.out.1 HWA.out.2.1 (fun k hk => ?_) (by simp; omega)).mono ?_
          · have := HSO.out
            rcases hk with hk | hk
            · exact ⟨.inr (.inr hk), by omega⟩
            · exact ⟨.inr (.inl hk), by omega⟩
          rintro e w5 ⟨rfl, h5, ⟨S', k1, k2⟩, k3⟩
          rw [List.nil_append] at k1
          have H5 := hid h5
          have hXo : ∀ k, X k → k < o6 := fun k hk => by have := HP.out.lv.xlt k hk; have := HO6.out; omega
          have HV5l := hid ((HVO.out.chg HWA.out.2.2 (fun _ _ h => h) (fun _ _ _ _ h => h)).chg k3 (fun k hk h => by
            have q := HVO.out.inS k hk
            have q2 := hXo k q.1
            rcases h with (h | h) | h
            · omega
            · omega
            · exact h.2 (.inl q.1)) (fun k hk _ _ h => by
            have := HSO.out
            rcases h with (h | h) | h
            · omega
            · omega
            · omega))
          obtain ⟨va, ba, hva⟩ := k1.ba
          obtain ⟨Aa, ca, hvaf⟩ := hva.form
          subst hvaf
          have HVA := hid hva
          have y0 : w5.cell? ⟨o6 + 1, 0, none⟩ = some (.slice Aa ps.length ca) := by rw [cellAt ba]; rfl
          have y1 : w5.cell? ⟨o6, 1, none⟩ = some (.int .i64 N) := by rw [cellAt k1.bo]; rfl
          have hfl : (fil p ps).length ≤ ps.length := fil_le p ps
          have HFL := hid hfl
          clear h5 k1 k2 k3 c0 c1 c2 c3 c4 hva ba hXo hfl
          obtain ⟨nf, hnf⟩ : ∃ nf, nf = (fil p ps).length := ⟨_, rfl⟩
          rw [← hnf]
          have HNF := hid hnf
          clear hnf
          go_wp2_with fail
          go_loopw [12, 126] (fun vl i wr2 => ∃ j : Nat, j ≤ ps.length ∧ i = .int .i64 j ∧ Vec pkK 38 wr2 (fun k => w5.heap.size ≤ k) (fun k => k < w.heap.size) vl (fil p (ps.take j)) ∧ Chg (fun _ => False) w5 wr2) (fun _ i _ => ps.length - (intOf i).toNat)
          case atStart => exact ⟨0, Nat.zero_le _, rfl, Vec.nil _ _ _ _ _, Chg.refl _ _⟩
          case round =>
            obtain ⟨j, hj, rfl, hvl, hch⟩ := hrel
            obtain ⟨AL, cL, hvlf⟩ := hvl.form
            subst hvlf
            obtain ⟨fl, hfl⟩ : ∃ fl, fl = fil p (ps.take j) := ⟨_, rfl⟩
            rw [← hfl] at hvl ⊢
            have HFL2 := hid hfl
            have hfln : fl.length ≤ 100 := by
              have := fil_le p (ps.take j)
              rw [← hfl, List.length_take] at this
              omega
            have HVL := hid hvl
            have HCH := hid hch
            have z1 : wr.cell? ⟨o6, 1, none⟩ = some (.int .i64 N) := hch.cell y1 (fun h => h)
            have z0 : wr.cell? ⟨o6 + 1, 0, none⟩ = some (.slice Aa ps.length ca) := hch.cell y0 (fun h => h)
            have HSW := hid (Nat.le_trans (Nat.le_trans HSO.out (Nat.le_of_lt (World.block_lt_of_cell? w5 _ y1))) hch.size)
            clear hvl hfl
            by_cases hlj : j < ps.length
            · obtain ⟨gl, cs, hB, hS2, hgl, hK, hcc⟩ := HV5l.out.get (by decide) (List.getElem?_eq_getElem hlj)
              obtain ⟨A2, n2, c2', rfl, hx2⟩ := pk_open hK
              subst hB
              have HTK := hid (show ps.take (j + 1) = ps.take j ++ [ps[j]] from List.take_succ_eq_append_getElem hlj)
              generalize ps[j] = x0 at hx2 hcc HTK
              have HX2 := hid ((hx2.chg hch (fun _ _ h => h)).mono (S' := fun k => k < w.heap.size) (fun k hk => hk.1))
              have r0 : wr.cell? ⟨gl, j * 3, none⟩ = some (.int .i64 x0.src) := hch.cell (hcc 0 _ rfl) (fun h => h)
              have r1 : wr.cell? ⟨gl, j * 3 + 1, none⟩ = some (.int .i64 x0.dst) := hch.cell (hcc 1 _ rfl) (fun h => h)
              have r2 : wr.cell? ⟨gl, j * 3 + 2, none⟩ = some (.slice A2 n2 c2') := hch.cell (hcc 2 _ rfl) (fun h => h)
              have hlo6 : o6 < wr.heap.size := World.block_lt_of_cell? wr _ z1
              have hno6 : o6 ≠ wr.heap.size := Nat.ne_of_lt hlo6
              clear hx2 hcc hK hch
              by_cases hq : x0.src = N
              · have HFE := hid (show fil p (ps.take (j + 1)) = fl by rw [HTK.out, fil_app, ← HFL2.out, fil_one, if_pos (by rw [HPD.out]; simpa using hq), List.append_nil])
                have hne : (x0.src != N) = false := by simp [hq]
                have HN := hid (HVL.out.chg ((Chg.refl (fun _ => False) wr).alloc (.cells #[.int .i64 x0.src, .int .i64 x0.dst, .slice A2 n2 c2'] 38)) (fun _ _ h => h) (fun _ _ _ _ h => h))
                have HNC := hid (HCH.out.alloc (.cells #[.int .i64 x0.src, .int .i64 x0.dst, .slice A2 n2 c2'] 38))
                rw [← HFE.out] at HN
                clear hq
                go_wp2_with fail
                go_roundw
                case measure => simp [intOf]; omega
                case rel => first | exact ⟨j + 1, by omega, by go_num, by first | exact HN.out | (rw [← HFE.out]; exact HN.out), HNC.out⟩ | ((repeat apply Exists.intro); exact ⟨⟨j + 1, by omega, by go_num, by first | exact HN.out | (rw [← HFE.out]; exact HN.out), HNC.out⟩, rfl⟩)
              · have HFE := hid (show fil p (ps.take (j + 1)) = fl ++ [x0] by rw [HTK.out, fil_app, ← HFL2.out, fil_one, if_neg (by rw [HPD.out]; simpa using hq)])
                have hne : (x0.src != N) = true := by simpa using hq
                obtain ⟨wx, hwx⟩ : ∃ wx, wx = wr.alloc (.cells #[.int .i64 x0.src, .int .i64 x0.dst, .slice A2 n2 c2'] 38) := ⟨_, rfl⟩
                have CX := hid (show Chg (fun _ => False) wr (wx.alloc (.cells #[.int .i64 x0.src, .int .i64 x0.dst, .slice A2 n2 c2'] 38)) by rw [hwx]; exact ((Chg.refl _ wr).alloc _).alloc _)
                have hszx : wx.heap.size = wr.heap.size + 1 := by rw [hwx]; simp
                have HSEE := hid (new_sees wx #[.int .i64 x0.src, .int .i64 x0.dst, .slice A2 n2 c2'] 38)
                rw [hszx, hwx] at HSEE
                rw [hwx] at CX
                clear hwx hszx hq
                go_wp2_with (first | (at_builtin; refine vec_list (d := pkK) _ rfl (.tmp 135) (.tmp 137) 57 38 (.agg #[.int .i64 0, .int .i64 0, .slice none 0 0]) 40 rfl Try.underlying57 info38 rfl (by decide) (by decide) (.slice AL fl.length cL) rfl (HVL.out.chg CX.out (fun _ _ h => h) (fun _ _ _ _ h => h)) (some ⟨wr.heap.size + 1, 0, none⟩) 1 1 (ys := [x0]) rfl (by simp) (by omega) rfl HSEE.out (Ty.Row.one_ (pk_shut ((HX2.out.chg CX.out (fun _ _ h => h)).mono ?side))) (by omega) ?_; (case side => (intro k' hk'; exact ⟨hk', fun e => (by have q1 := HVL.out.inS k' e; have q2 : o6 < w5.heap.size := World.block_lt_of_cell? w5 _ y1; have q3 := HSO.out; omega), by have := HSW.out; simp; omega⟩)); intro A6 c6 w6 h6 h7; have H6 := hid h6; have H7 := hid h7; clear h6 h7))
                have HN := hid (show Vec pkK 38 w6 (fun k => w5.heap.size ≤ k) (fun k => k < w.heap.size) (.slice A6 (fl.length + 1) c6) (fil p (ps.take (j + 1))) by
                  rw [HFE.out]
                  exact H6.out.mono (fun k hk _ => by
                    have q1 := CX.out.size
                    have q2 := HCH.out.size
                    rcases hk with hk | hk <;> omega) (fun k hk _ => hk))
                have HNC := hid ((HCH.out.trans CX.out (fun _ h _ => h)).trans H7.out (fun k hk hlt => by have := HVL.out.inS k hk; omega))
                go_wp2_with fail
                go_roundw
                case measure => simp [intOf]; omega
                case rel => first | exact ⟨j + 1, by omega, by go_num, HN.out, HNC.out⟩ | ((repeat apply Exists.intro); exact ⟨⟨j + 1, by omega, by go_num, HN.out, HNC.out⟩, rfl⟩)
            · obtain rfl : j = ps.length := by omega
              have HFE := hid (show fl = fil p ps by rw [HFL2.out, List.take_length])
              clear hch
              go_wp2_with fail
              refine (alike_any (HVA.out.at.chg HCH.out (fun _ _ h => h)) (HV5l.out.at.chg HCH.out (fun _ _ h => h)) (by omega)).mono ?_
              rintro e w7 ⟨rfl, hc7⟩
              have hw9 : IntKind.i64.wrap ((ps.length : Int) - (fl.length : Int)) = (ps.length : Int) - (nf : Int) := by
                rw [IntWalk.i64_in _ (by omega), HFE.out, HNF.out]
              have HC7 := hid (HCH.out.trans hc7 (fun _ h _ => h))
              have HL5 := hid (H5.out.since (HC7.out.mono (fun _ h _ => h.elim)))
              rw [← HFE.out] at HL5
              have hsz5 : w.heap.size ≤ w5.heap.size := H5.out.size
              have HV5 := hid ((HVL.out.chg hc7 (fun _ _ h => h) (fun _ _ _ _ h => h)).mono (S' := fun k => ((X k ∨ k = o6 ∨ k = o6 + 1) ∨ (w5.heap.size ≤ k ∧ k < w7.heap.size)) ∧ w.heap.size ≤ k) (fun k hk hl => ⟨.inr ⟨hk, hl⟩, by omega⟩) (fun k hk _ => hk))
              have HLEN5 := hid (show fl.length ≤ k + 1 by have := HFL.out; have := HFE.out; rw [this]; omega)
              have HBIG5 := hid (show ∀ y ∈ fl, y.data.length ≤ 200 from fun y hy => by
                rw [HFE.out] at hy
                exact HP.out.big y (List.mem_filter.1 hy).1)
              clear hc7 y0 y1
              go_wp2_with fail
              refine (lp_len HL5.out).mono ?_
              rintro e w8 ⟨rfl, rfl⟩
              go_wp2_with fail
              refine (lp_all HL5.out).mono ?_
              rintro e w8 ⟨A8, c8, rfl, hv8, hc8⟩
              have HL8 := hid (HL5.out.new hc8)
              have HV8 := hid (HV5.out.chg hc8 (fun _ _ h => h) (fun _ _ _ _ h => h))
              have HW8 := hid hv8
              clear hv8 hc8
              go_wp2_with fail
              refine (alike_any HW8.out.at HV8.out.at (by have := HLEN5.out; omega)).mono ?_
              rintro e w9 ⟨rfl, hc9⟩
              have HR := hid (show PlaysAt w tp (k + 1) _ _ _ w9 from ⟨HL8.out.new hc9, HV8.out.chg hc9 (fun _ _ h => h) (fun _ _ _ _ h => h), HLEN5.out, HBIG5.out⟩)
              clear hc9
              go_wp2_with fail
              go_roundw
              case measure => simp [intOf]; omega
              case rel => first | exact ⟨k + 1, by omega, by go_num, _, _, HR.out⟩ | ((repeat apply Exists.intro); exact ⟨⟨k + 1, by omega, by go_num, _, _, HR.out⟩, rfl⟩)
        -->>k4
      --<<ko
      have HL5 := hid HLO.out
      have HV5 := hid (HVO.out.mono (S' := fun k => (X k ∨ k = o6) ∧ w.heap.size ≤ k) (fun k hk _ => ⟨.inl hk.1, hk.2⟩) (fun k hk _ => hk))
      have HLEN5 := hid (show ps.length ≤ k + 1 by omega)
      have HBIG5 := hid HP.out.big
      rcases hcase with hc | ⟨hc, hc'⟩ | ⟨hc, hc'⟩
      all_goals
        go_wp2_with fail
        rw [← hwo]
        try rw [← HO6.out]
        clear hwo c0 c1 c2 c3 c4
        go_wp2_with fail
        refine (lp_len HL5.out).mono ?_
        rintro e w8 ⟨rfl, rfl⟩
        go_wp2_with fail
        refine (lp_all HL5.out).mono ?_
        rintro e w8 ⟨A8, c8, rfl, hv8, hc8⟩
        have HL8 := hid (HL5.out.new hc8)
        have HV8 := hid (HV5.out.chg hc8 (fun _ _ h => h) (fun _ _ _ _ h => h))
        have HW8 := hid hv8
        clear hv8 hc8
        go_wp2_with fail
        refine (alike_any HW8.out.at HV8.out.at (by have := HLEN5.out; omega)).mono ?_
        rintro e w9 ⟨rfl, hc9⟩
        have HR := hid (show PlaysAt w tp (k + 1) _ _ _ w9 from ⟨HL8.out.new hc9, HV8.out.chg hc9 (fun _ _ h => h) (fun _ _ _ _ h => h), HLEN5.out, HBIG5.out⟩)
        clear hc9
        go_wp2_with fail
        go_roundw
        case measure => simp [intOf]; omega
        case rel => first | exact ⟨k + 1, by omega, by go_num, _, _, HR.out⟩ | ((repeat apply Exists.intro); exact ⟨⟨k + 1, by omega, by go_num, _, _, HR.out⟩, rfl⟩)
      -->>ko
    · go_wp2_with fail
      go_ret
      exact ⟨rfl, HP.out.lv.below⟩

theorem PostPlays_walk (w : World) (A : Option Addr) (n c : Nat) (ops : List Op17) (ha : Ty.At op17K w (fun k => k < w.heap.size) A n c ops) :
    Calls Try.prog 10 #[.slice A n c] w fun e w' => e = .returned (.bool true) ∧ Below w.heap.size w w' := by
  by_cases h : n ≤ 100
  · exact plays_in w A n c ops ha h
  · exact plays_out w A n c (by omega)
end Go.Proofs.Ytmllakklhbmboaa.Po
