/- The walk of the law TapeGrows. -/
import Derived.Test.YtmllakklhbmboaaTapeA
import Derived.Test.YtmllakklhbmboaaTapeD
import Derived.Test.YtmllakklhbmboaaTypesB
namespace Go.Proofs.Ytmllakklhbmboaa.T
set_option linter.unusedVariables false
set_option linter.unusedSimpArgs false
open Go.RowKit Go.Proofs.Ytmllakklhbmboaa.C
attribute [local go_sem] max2_int min2_int max_two min_two

theorem add_next (a : Addr) (i j : Nat) : a.add (i + (j + 1)) = ⟨(a.add i).block, (a.add i).off + (j + 1), none⟩ := by
  rw [← C.add_add]
  generalize a.add i = q
  unfold Addr.add
  simp

theorem grows_does {T : TS} (h : T.Ok) (kind num : Int) (l : List UInt8) (k3 : kind ≠ 3) (k5 : kind = 5 → l = []) : T.safe ≤ (T.does kind num l).1.safe ∧ (T.does kind num l).1.b.take T.safe.toNat = T.b.take T.safe.toNat := by
  have h0 := h.s0
  have h1 := h.s1
  unfold TS.does
  split
  · unfold TS.append
    split
    · exact ⟨Int.le_refl _, rfl⟩
    · split
      · exact ⟨Int.le_refl _, rfl⟩
      · exact ⟨Int.le_refl _, by show (T.b ++ l).take _ = _; rw [List.take_append_of_le_length (by omega)]⟩
  · split
    · unfold TS.sync
      split
      · exact ⟨Int.le_refl _, rfl⟩
      · split
        · exact ⟨Int.le_refl _, rfl⟩
        · exact ⟨h1, rfl⟩
    · split
      · exact ⟨Int.le_refl _, rfl⟩
      · split
        · rename_i hk
          rw [k5 hk]
          refine ⟨by show T.safe ≤ ((T.safe.toNat + _ : Nat) : Int); omega, ?_⟩
          show (T.b.take T.safe.toNat ++ _).take T.safe.toNat = _
          rw [List.take_append_of_le_length (by rw [List.length_take]; omega), List.take_take, Nat.min_self]
        · exact ⟨Int.le_refl _, rfl⟩

theorem Lv.calm {w0 w : World} {g : Nat} {T : TS} (h : Lv w0 w (fun _ => False) g T) (o : Obj) : Lv w0 (w.alloc o) (fun _ => False) g T := by
  obtain ⟨⟨S, v, ht, hS⟩, hb, hx, ok⟩ := h.alloc o
  exact ⟨⟨S, v, ht, fun k hk hl => ⟨(hS k hk hl).1, fun h => h⟩⟩, hb, fun k hk => hk.elim, ok⟩

theorem Lv.calmed {w0 w : World} {X : Nat → Prop} {g : Nat} {T : TS} (h : Lv w0 w X g T) : Lv w0 w (fun _ => False) g T := by
  obtain ⟨⟨S, v, ht, hS⟩, hb, hx, ok⟩ := h
  exact ⟨⟨S, v, ht, fun k hk hl => ⟨(hS k hk hl).1, fun h => h⟩⟩, hb, fun k hk => hk.elim, ok⟩

theorem grows_out (w : World) (A : Option Addr) (n c : Nat) (h : 80 < n) :
    Calls Try.prog 8 #[.slice A n c] w fun e w' => e = .returned (.bool true) ∧ Below w.heap.size w w' := by
  have g : (80 : Int) < (n : Int) := by omega
  go_enter Try.func8, Try.ntmps8
  go_wp2_with fail
  refine (anchor_any w).mono ?_
  rintro e w1 ⟨rfl, hb1⟩
  go_wp2_with fail
  go_ret
  exact ⟨rfl, hb1⟩

set_option maxHeartbeats 4000000 in
set_option maxRecDepth 100000 in
theorem grows_in (w : World) (A : Option Addr) (n c : Nat) (ops : List C.Op) (ha : Ty.At opK w (fun k => k < w.heap.size) A n c ops) (h : n ≤ 80) :
    Calls Try.prog 8 #[.slice A n c] w fun e w' => e = .returned (.bool true) ∧ Below w.heap.size w w' := by
  have HA := hid ha
  have HN := hid ha.1
  have g : ¬ (80 : Int) < (n : Int) := by omega
  clear ha
  go_enter Try.func8, Try.ntmps8
  go_wp2_with fail
  refine (anchor_any w).mono ?_
  rintro e w1 ⟨rfl, hb1⟩
  have HB1 := hid hb1
  clear hb1
  go_wp2_with fail
  refine (lv_new w w1 (fun _ => False) 65536 HB1.out (fun _ h => h.elim) (by omega) (by omega)).mono ?_
  rintro e w2 ⟨rfl, h2, _⟩
  have H2 := hid h2
  clear h2
  go_wp2_with fail
  obtain ⟨tp, htp⟩ : ∃ tp, tp = w1.heap.size := ⟨_, rfl⟩
  have HG := hid htp
  rw [← htp] at H2 ⊢
  clear htp
  go_loopw [4, 18] (fun s i wr => ∃ k : Nat, k ≤ n ∧ i = .int .i64 k ∧ ∃ T, Lv w wr (fun _ => False) tp T ∧ s = .string (bstr (T.b.take T.safe.toNat))) (fun _ i _ => n - (intOf i).toNat)
  case atStart => exact ⟨0, Nat.zero_le _, rfl, _, H2.out, rfl⟩
  case round =>
    obtain ⟨k, hk, rfl, T, hT, rfl⟩ := hrel
    have HT := hid hT
    obtain ⟨s, hs⟩ : ∃ s : Nat, T.safe = (s : Int) := ⟨T.safe.toNat, by have := hT.ok.s0; omega⟩
    have HS1 := hid hs
    have hsl : s ≤ T.b.length := by have := hT.ok.s1; omega
    have e0 : T.b.take T.safe.toNat = T.b.take s := by rw [hs, Int.toNat_natCast]
    rw [e0]
    obtain ⟨x, hx⟩ : ∃ x, x = bstr (T.b.take s) := ⟨_, rfl⟩
    have HX := hid hx
    have hxs : x.size = s := by rw [hx, bstr_size, List.length_take]; omega
    rw [← hx]
    clear hT hs e0 hx hsl
    by_cases hlt : k < n
    · obtain ⟨o, ho⟩ : ∃ o, ops[k]? = some o := ⟨_, List.getElem?_eq_getElem (by have := HN.out; omega)⟩
      obtain ⟨a, cs, ha, hSa, hK, hc⟩ := (HA.out.chg (Chg.of_below HT.out.below) (fun k hk h => by omega)).get (by decide) ho
      subst ha
      obtain ⟨_, _, rfl, ⟨rfl, wf1⟩, _, _, rfl, ⟨rfl, wf2⟩, A', m, c', rfl, hd⟩ := hK
      have c0 := hc 0 _ rfl
      have c1 := hc 1 _ rfl
      have c2 := hc 2 _ rfl
      simp only [show opK.sz = 3 from rfl, Nat.add_zero] at c0 c1 c2
      rw [add_next _ _ 0] at c1
      rw [add_next _ _ 1] at c2
      have HD := hid hd
      have HW := hid (wf64 wf2).2
      have HS := hid hSa
      clear hc wf1 wf2 hd hSa ho
      obtain ⟨kind, num, data⟩ := o
      simp only at c0 c1 c2 HD HW
      by_cases k3 : kind = 3
      · subst k3
        go_wp2_with fail
        go_roundw
        case measure => simp [intOf]; omega
        case rel => first | exact ⟨k + 1, by omega, by go_num, T, HT.out.calm _, by rw [HX.out, HS1.out, Int.toNat_natCast]⟩ | ((repeat apply Exists.intro); exact ⟨⟨k + 1, by omega, by go_num, T, HT.out.calm _, by rw [HX.out, HS1.out, Int.toNat_natCast]⟩, rfl⟩)
      have k3' : (kind == 3) = false := by simpa using k3
      by_cases hm : (300 : Int) < (m : Int)
      · go_wp2_with fail
        go_roundw
        case measure => simp [intOf]; omega
        case rel => first | exact ⟨k + 1, by omega, by go_num, T, HT.out.calm _, by rw [HX.out, HS1.out, Int.toNat_natCast]⟩ | ((repeat apply Exists.intro); exact ⟨⟨k + 1, by omega, by go_num, T, HT.out.calm _, by rw [HX.out, HS1.out, Int.toNat_natCast]⟩, rfl⟩)
      have GD := hid (fun l h5 => grows_does HT.out.ok kind num l k3 h5)
      by_cases k5 : kind = 5
      case' pos =>
        subst k5
        obtain ⟨T', hT'⟩ : ∃ T', T' = (T.does 5 num []).1 := ⟨_, rfl⟩
        have G := hid (show T.safe ≤ T'.safe ∧ T'.b.take T.safe.toNat = T.b.take T.safe.toNat by rw [hT']; exact GD.out [] (fun _ => rfl))
        have HT' := hid hT'
        clear hT'
        go_wp2_with fail
        refine (lv_does (l := []) (R := fun _ => False) (HT.out.alloc _) HW.out (fun _ => rfl) rfl (Nat.le_refl _) (.nil _ _ _) (fun k hk => hk.elim)).mono ?_
        rintro e w4 ⟨rfl, h4, _⟩
        rw [← HT'.out] at h4
        have H4 := hid h4
        clear h4
      case' neg =>
        obtain ⟨T', hT'⟩ : ∃ T', T' = (T.does kind num data).1 := ⟨_, rfl⟩
        have G := hid (show T.safe ≤ T'.safe ∧ T'.b.take T.safe.toNat = T.b.take T.safe.toNat by rw [hT']; exact GD.out data (fun h => absurd h k5))
        have HT' := hid hT'
        clear hT'
        go_wp2_with fail
        refine (lv_does (l := data) (HT.out.alloc _) HW.out HD.out.2.2.2.1 HD.out.1 HD.out.2.1 (HD.out.bytes.chg ((Chg.refl (fun _ => False) wr).alloc _) (fun _ _ h => h)) (fun k hk => .inl hk)).mono ?_
        rintro e w4 ⟨rfl, h4, _⟩
        rw [← HT'.out] at h4
        have H4 := hid h4
        clear h4
      all_goals
        go_wp2_with fail
        refine (lv_bytes H4.out).mono ?_
        rintro e w5 ⟨c5, rfl, h5, h5r, _, h5d⟩
        have H5 := hid h5
        have hs := str_run (P := Try.prog) (src := 22) (dst := 9) (e := 5) (l := T'.b) Try.underlying22 Try.underlying5 Try.underlying9 rfl (own_at h5r).2.2.2 (by simp) h5d
        clear h5 h5r h5d
        obtain ⟨s', hs'⟩ : ∃ s' : Nat, T'.safe = (s' : Int) := ⟨T'.safe.toNat, by have := H5.out.ok.s0; omega⟩
        have HS2 := hid hs'
        have hl' : s' ≤ T'.b.length := by have := H5.out.ok.s1; omega
        have hss : s ≤ s' := by have := G.out.1; have := HS1.out; omega
        have hex : (bstr T'.b).extract 0 s = x := by
          have := G.out.2
          rw [HS1.out, Int.toNat_natCast] at this
          rw [HX.out, ← this, bstr, ByteArray.extract_mk]
          rfl
        have hex' : (bstr T'.b).extract 0 s' = bstr (T'.b.take s') := by
          rw [bstr, ByteArray.extract_mk]
          rfl
        obtain ⟨y, hy⟩ : ∃ y, y = bstr T'.b := ⟨_, rfl⟩
        have hys : y.size = T'.b.length := by rw [hy, bstr_size]
        rw [← hy] at hs hex hex'
        have HE' := hid hex'
        have g1 : ¬ (s' : Int) < (s : Int) := by omega
        have g2 : ¬ (T'.b.length : Int) < (s' : Int) := by omega
        have g3 : (s : Int) ≤ (T'.b.length : Int) := by omega
        have g4 : (s' : Int) ≤ (T'.b.length : Int) := by omega
        clear hs' hy hss hl'
        go_wp2_with fail
        refine (lv_safe H5.out).mono ?_
        rintro e w6 ⟨rfl, rfl⟩
        rw [HS2.out]
        go_wp2_with fail
        refine (lv_safe H5.out).mono ?_
        rintro e w6 ⟨rfl, rfl⟩
        rw [HS2.out]
        go_wp2_with fail
        refine (lv_safe H5.out).mono ?_
        rintro e w6 ⟨rfl, rfl⟩
        rw [HS2.out]
        go_wp2_with fail
        go_roundw
        case measure => simp [intOf]; omega
        case rel => first | exact ⟨k + 1, by omega, by go_num, T', H5.out.calmed, by first | rw [HS2.out, Int.toNat_natCast] | rw [HE'.out, HS2.out, Int.toNat_natCast]⟩ | ((repeat apply Exists.intro); exact ⟨⟨k + 1, by omega, by go_num, T', H5.out.calmed, by first | rw [HS2.out, Int.toNat_natCast] | rw [HE'.out, HS2.out, Int.toNat_natCast]⟩, rfl⟩)
    · go_wp2_with fail
      go_ret
      exact ⟨rfl, HT.out.below⟩

theorem TapeGrows_walk (w : World) (A : Option Addr) (n c : Nat) (ops : List C.Op) (ha : Ty.At opK w (fun k => k < w.heap.size) A n c ops) :
    Calls Try.prog 8 #[.slice A n c] w fun e w' => e = .returned (.bool true) ∧ Below w.heap.size w w' := by
  by_cases h : n ≤ 80
  · exact grows_in w A n c ops ha h
  · exact grows_out w A n c (by omega)
end Go.Proofs.Ytmllakklhbmboaa.T
