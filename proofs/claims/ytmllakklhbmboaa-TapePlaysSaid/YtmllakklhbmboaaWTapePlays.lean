/- The walk of the law TapePlays. -/
import Derived.Test.YtmllakklhbmboaaTapeU
import Derived.Test.YtmllakklhbmboaaTypesB
namespace Go.Proofs.Ytmllakklhbmboaa.T
set_option linter.unusedVariables false
set_option linter.unusedSimpArgs false
open Go.RowKit Go.Proofs.Ytmllakklhbmboaa.C
attribute [local go_sem] max2_int min2_int max_two min_two

theorem pl_next (a : Addr) (i j : Nat) : a.add (i + (j + 1)) = ⟨(a.add i).block, (a.add i).off + (j + 1), none⟩ := by
  rw [← C.add_add]
  generalize a.add i = q
  unfold Addr.add
  simp
theorem falls_room (t : TW) : t.falls.1.room = t.room := by
  unfold TW.falls
  repeat' split
  all_goals rfl
theorem loosed_room (t : TW) (k : Int) (l : List UInt8) : (t.loosed k l).room = t.room := by
  unfold TW.loosed
  split <;> rfl
theorem ended_room (t : TW) (k n : Int) (l : List UInt8) : (t.ended k n l).room = t.room := by
  unfold TW.ended
  repeat' split
  all_goals rfl
theorem falls_left (t : TW) (h : t.left ≤ 9223372036854775807) : t.falls.1.left ≤ 9223372036854775807 := by
  unfold TW.falls
  split
  · exact h
  · split
    · show t.left - 1 ≤ _
      omega
    · exact h
theorem loosed_left (t : TW) (k : Int) (l : List UInt8) : (t.loosed k l).left = t.left := by
  unfold TW.loosed
  split <;> rfl
theorem ended_left (t : TW) (k n : Int) (l : List UInt8) : (t.ended k n l).left = t.left := by
  unfold TW.ended
  repeat' split
  all_goals rfl
theorem step_room (t : TW) (k n : Int) (l : List UInt8) : (t.step k n l).1.room = t.room := by
  unfold TW.step
  iterate 6 (split; · rfl)
  split
  · show (t.falls.1.loosed k l).room = _; rw [loosed_room, falls_room]
  · show ((t.falls.1.loosed k l).ended k n _).room = _; rw [ended_room, loosed_room, falls_room]
theorem step_left (t : TW) (k n : Int) (l : List UInt8) (h : t.left ≤ 9223372036854775807) (hn : n ≤ 9223372036854775807) : (t.step k n l).1.left ≤ 9223372036854775807 := by
  unfold TW.step
  split
  · exact hn
  iterate 5 (split; · exact h)
  split
  · show (t.falls.1.loosed k l).left ≤ _; rw [loosed_left]; exact falls_left t h
  · show ((t.falls.1.loosed k l).ended k n _).left ≤ _; rw [ended_left, loosed_left]; exact falls_left t h
def SteppedW (S : Nat → Prop) (g : Nat) (t : TW) (w w' : World) : Prop := ∃ vs' vl', TwAt w' (fun k => S k ∨ w.heap.size ≤ k) g vs' vl' t ∧ Chg S w w'

theorem step_calls (S R : Nat → Prop) (g : Nat) (vs vl : Value) (t : TW) (kind n : Int) (A : Option Addr) (m c : Nat) (l : List UInt8) (w : World) (h : TwAt w S g vs vl t) (hp : t.armed = true → 0 ≤ t.left) (hm : t.left ≤ 9223372036854775807) (hn : n ≤ 9223372036854775807)
    (hsz : t.safe.length + t.loose.length ≤ 1048576) (hr0 : 0 ≤ t.room) (hr1 : t.room ≤ 1048576) (hl : Ty.At Ty.u8 w R A m c l) (hl3 : l.length ≤ 300) (hR : ∀ k, R k → ¬ S k) :
    Calls Try.prog 28 #[.pointer (some ⟨g, 0, none⟩), .agg #[.int .i64 kind, .int .i64 n, .slice A m c]] w fun e w' => e = .returned (.int .i64 (t.step kind n l).2) ∧ SteppedW S g (t.step kind n l).1 w w' :=
  (step_any S R g vs vl t kind n A m c l w h hp hm hn hsz hr0 hr1 hl hl3 hR).mono fun e w' ⟨vs', vl', he, ht, hc⟩ => ⟨he, vs', vl', ht, hc⟩

theorem does_ok {T : TS} (h : T.Ok) (k n : Int) (l : List UInt8) (hn : n ≤ 9223372036854775807) : (T.does k n l).1.Ok := by
  unfold TS.does
  split
  · exact TS.append_ok h l
  split
  · exact TS.sync_ok h
  split
  · exact TS.trim_ok h n
  split
  · exact TS.arm_ok h n hn
  split
  · exact TS.crash_ok h n l
  · exact h

structure PlayAt (w0 : World) (tp tw : Nat) (room : Int) (X : Nat → Prop) (T : TS) (t : TW) (vs vl : Value) (wr : World) : Prop where
  lv : Lv w0 wr X tp T
  tw : TwAt wr (fun k => X k ∧ w0.heap.size ≤ k) tw vs vl t
  twin : Twin T t
  room : t.room = room
  left : t.left ≤ 9223372036854775807

theorem plays_out (w : World) (room : Int) (A : Option Addr) (n c : Nat) (h : 80 < n) :
    Calls Try.prog 9 #[.int .i64 room, .slice A n c] w fun e w' => e = .returned (.bool true) ∧ Below w.heap.size w w' := by
  have g : (80 : Int) < (n : Int) := by omega
  go_enter Try.func9, Try.ntmps9
  go_wp2_with fail
  refine (anchor_any w).mono ?_
  rintro e w1 ⟨rfl, hb1⟩
  go_wp2_with fail
  go_ret
  exact ⟨rfl, hb1⟩
theorem plays_no (w : World) (room : Int) (A : Option Addr) (n c : Nat) (h : n ≤ 80) (hr : room < 0 ∨ 1048576 < room) :
    Calls Try.prog 9 #[.int .i64 room, .slice A n c] w fun e w' => e = .returned (.bool true) ∧ Below w.heap.size w w' := by
  have g : ¬ (80 : Int) < (n : Int) := by omega
  have HR := hid hr
  rcases hr with hr | hr
  · go_enter Try.func9, Try.ntmps9
    go_wp2_with fail
    refine (anchor_any w).mono ?_
    rintro e w1 ⟨rfl, hb1⟩
    go_wp2_with fail
    refine (new_no room w1 HR.out).mono ?_
    rintro e w2 ⟨rfl, rfl⟩
    go_wp2_with fail
    go_ret
    exact ⟨rfl, hb1⟩
  · have hr' : ¬ room < 0 := by omega
    go_enter Try.func9, Try.ntmps9
    go_wp2_with fail
    refine (anchor_any w).mono ?_
    rintro e w1 ⟨rfl, hb1⟩
    go_wp2_with fail
    refine (new_no room w1 HR.out).mono ?_
    rintro e w2 ⟨rfl, rfl⟩
    go_wp2_with fail
    go_ret
    exact ⟨rfl, hb1⟩

set_option maxHeartbeats 8000000 in
set_option maxRecDepth 100000 in
theorem plays_in (w : World) (room : Int) (A : Option Addr) (n c : Nat) (ops : List C.Op) (ha : Ty.At opK w (fun k => k < w.heap.size) A n c ops) (h : n ≤ 80) (hr0 : 0 ≤ room) (hr1 : room ≤ 1048576) :
    Calls Try.prog 9 #[.int .i64 room, .slice A n c] w fun e w' => e = .returned (.bool true) ∧ Below w.heap.size w w' := by
  have HA := hid ha
  have HN := hid ha.1
  have g : ¬ (80 : Int) < (n : Int) := by omega
  have g0 : ¬ room < 0 := by omega
  have g1 : ¬ (1048576 : Int) < room := by omega
  clear ha
  go_enter Try.func9, Try.ntmps9
  go_wp2_with fail
  refine (anchor_any w).mono ?_
  rintro e w1 ⟨rfl, hb1⟩
  have HB1 := hid hb1
  clear hb1
  go_wp2_with fail
  refine (lv_new w w1 (fun _ => False) room HB1.out (fun _ h => h.elim) hr0 hr1).mono ?_
  rintro e w2 ⟨rfl, h2, _⟩
  have H2 := hid h2
  clear h2
  go_wp2_with fail
  obtain ⟨tp, htp⟩ : ∃ tp, tp = w1.heap.size := ⟨_, rfl⟩
  obtain ⟨tw, htw⟩ : ∃ tw, tw = w2.heap.size := ⟨_, rfl⟩
  have HTW := hid htw
  rw [← htp] at H2 ⊢
  try rw [← htw]
  have h3 : PlayAt w tp tw room (fun k => False ∨ k = w2.heap.size) ⟨[], 0, room, -1, false⟩ ⟨[], [], room, 0, false, false⟩ (.slice none 0 0) (.slice none 0 0) (w2.alloc (.cells #[.slice none 0 0, .slice none 0 0, .int .i64 room, .int .i64 0, .bool false, .bool false] 53)) := by
    refine ⟨H2.out.alloc _, ⟨⟨.inr htw, by have := H2.out.size; omega⟩, by rw [htw]; exact blk_new w2 _, own_nil _ _ _, own_nil _ _ _, fun k hk => by simp [Value.ownBlock] at hk, fun k hk => by simp [Value.ownBlock] at hk, fun k hk => by simp [Value.ownBlock] at hk⟩, ⟨rfl, rfl, rfl, rfl, fun h => by simp at h, rfl⟩, rfl, by show (0 : Int) ≤ _; omega⟩
  have H3 := hid h3
  clear htp htw h3
  go_loopw [32] (fun i wr => ∃ k : Nat, k ≤ n ∧ i = .int .i64 k ∧ ∃ X T t vs vl, PlayAt w tp tw room X T t vs vl wr) (fun i _ => n - (intOf i).toNat)
  case atStart => exact ⟨0, Nat.zero_le _, rfl, _, _, _, _, _, H3.out⟩
  case round =>
    obtain ⟨k, hk, rfl, X, T, t, vs, vl, hP⟩ := hrel
    have HP := hid hP
    clear hP H3
    by_cases hlt : k < n
    · obtain ⟨o, ho⟩ : ∃ o, ops[k]? = some o := ⟨_, List.getElem?_eq_getElem (by have := HN.out; omega)⟩
      obtain ⟨a, cs, ha, hSa, hK, hc⟩ := (HA.out.chg (Chg.of_below HP.out.lv.below) (fun k hk h => by omega)).get (by decide) ho
      subst ha
      obtain ⟨_, _, rfl, ⟨rfl, wf1⟩, _, _, rfl, ⟨rfl, wf2⟩, A', m, c', rfl, hd⟩ := hK
      have c0 := hc 0 _ rfl
      have c1 := hc 1 _ rfl
      have c2 := hc 2 _ rfl
      simp only [show opK.sz = 3 from rfl, Nat.add_zero] at c0 c1 c2
      rw [pl_next _ _ 0] at c1
      rw [pl_next _ _ 1] at c2
      have HD := hid hd
      have HW := hid (wf64 wf2).2
      clear hc wf1 wf2 hd hSa ho
      obtain ⟨kind, num, data⟩ := o
      simp only at c0 c1 c2 HD HW
      by_cases hm : (300 : Int) < (m : Int)
      · go_wp2_with fail
        go_ret
        exact ⟨rfl, HP.out.lv.below.alloc HP.out.lv.size _⟩
      · have HD3 := hid (show data.length ≤ 300 by have := HD.out.1; omega)
        have hbl := HP.out.lv.ok.r0
        have hroom : T.room = room := by rw [HP.out.twin.room, HP.out.room]
        have hbb : T.b.length = t.safe.length + t.loose.length := by rw [HP.out.twin.b, List.length_append]
        have HSZ := hid (show t.safe.length + t.loose.length ≤ 1048576 by omega)
        clear hbl hroom hbb
        obtain ⟨⟨ts, tl, tr, tlf, ta, td⟩, r, hst⟩ : ∃ (t' : TW) (r : Int), t.step kind num data = (t', r) := ⟨_, _, rfl⟩
        have HST := hid hst
        clear hst
        go_wp2_with fail
        refine (step_calls (fun k => X k ∧ w.heap.size ≤ k) (fun k => k < w.heap.size) tw vs vl t kind num A' m c' data _ (HP.out.tw.chg ((Chg.refl (fun _ => False) wr).alloc _) (fun _ _ h => h)) HP.out.twin.pos HP.out.left HW.out HSZ.out (by rw [HP.out.room]; exact hr0) (by rw [HP.out.room]; exact hr1) (HD.out.chg ((Chg.refl (fun _ => False) wr).alloc _) (fun _ _ h => h)) HD3.out (fun k hk h => by have := h.2; omega)).mono ?_
        rintro e w3 ⟨rfl, hsw⟩
        rw [HST.out] at hsw ⊢
        obtain ⟨vs', vl', ht, hch⟩ := hsw
        have HCH := hid (((Chg.refl (fun k => X k ∧ w.heap.size ≤ k) wr).alloc _).trans hch (fun _ h _ => h))
        have hbk := hch.blk (blk_new wr _) (fun h => by have := HP.out.lv.xlt _ h.1; omega)
        have hsz3 : wr.heap.size < w3.heap.size := by have := hch.size; simp at this; omega
        have HL3 := hid (HP.out.lv.since (((Chg.refl (fun k => X k ∧ w.heap.size ≤ k) wr).alloc _).trans hch (fun _ h _ => h)))
        have HT3 := hid (ht.bound.mono (fun k hk => by
          obtain ⟨hk, hk2⟩ := hk
          rcases hk with hk | hk
          · exact (⟨.inl hk.1, hk.2⟩ : (X k ∨ (wr.heap.size ≤ k ∧ k < w3.heap.size)) ∧ w.heap.size ≤ k)
          · simp at hk
            have := HP.out.lv.size
            exact ⟨.inr ⟨by omega, hk2⟩, by omega⟩))
        obtain ⟨X2, hX2⟩ : ∃ X2 : Nat → Prop, X2 = fun k => X k ∨ (wr.heap.size ≤ k ∧ k < w3.heap.size) := ⟨_, rfl⟩
        rw [show (fun k => (X k ∨ (wr.heap.size ≤ k ∧ k < w3.heap.size)) ∧ w.heap.size ≤ k) = (fun k => X2 k ∧ w.heap.size ≤ k) by rw [hX2]] at HT3
        rw [← hX2] at HL3
        have hXb : X2 wr.heap.size := by rw [hX2]; exact .inr ⟨Nat.le_refl _, hsz3⟩
        clear hX2 ht hch
        obtain ⟨As, cs, hvs, ks1, _, ks3, ks4⟩ := own_sees HT3.out.safe
        obtain ⟨Al, cl, hvl, kl1, _, kl3, kl4⟩ := own_sees HT3.out.loose
        subst hvs hvl
        have ht' := twin_step HP.out.twin HP.out.lv.ok kind num data
        rw [HST.out] at ht'
        obtain ⟨htw, hans⟩ := ht'
        obtain ⟨T', hT'⟩ : ∃ T', T' = (T.does kind num data).1 := ⟨_, rfl⟩
        rw [← hT'] at htw
        simp only at hans
        have HANS := hid hans
        have HT' := hid hT'
        have HTWN := hid htw
        have hrm : tr = room := by have := step_room t kind num data; rw [HST.out] at this; rw [← HP.out.room]; exact this
        have hlf : tlf ≤ 9223372036854775807 := by have := step_left t kind num data HP.out.left HW.out; rw [HST.out] at this; exact this
        subst hrm
        have HLF := hid hlf
        have hTb : T'.b = ts ++ tl := htw.b
        have hTs : T'.safe = (ts.length : Int) := htw.safe
        have hTr : T'.room = tr := htw.room
        have hTd : T'.down = td := htw.down
        have hok' := (show T'.Ok by rw [hT']; exact does_ok HP.out.lv.ok kind num data HW.out)
        have hlen : (ts.length : Int) + (tl.length : Int) ≤ tr := by have := hok'.r0; rw [hTb, List.length_append, hTr] at this; omega
        obtain ⟨Mt, hMt⟩ : ∃ Mt : Nat → Prop, ∀ k, Mt k ↔ (w.heap.size ≤ k ∧ ¬ X2 k) := ⟨_, fun _ => Iff.rfl⟩
        have hx0 : ∀ wx, Chg Mt w3 wx → wx.cell? ⟨wr.heap.size, 0, none⟩ = some (.int .i64 kind) := fun wx h => h.cell (by rw [cellAt hbk]; rfl) (fun h => ((hMt _).1 h).2 hXb)
        have hx1 : ∀ wx, Chg Mt w3 wx → wx.cell? ⟨wr.heap.size, 1, none⟩ = some (.int .i64 num) := fun wx h => h.cell (by rw [cellAt hbk]; rfl) (fun h => ((hMt _).1 h).2 hXb)
        have hx2 : ∀ wx, Chg Mt w3 wx → wx.cell? ⟨wr.heap.size, 2, none⟩ = some (.slice A' m c') := fun wx h => h.cell (by rw [cellAt hbk]; rfl) (fun h => ((hMt _).1 h).2 hXb)
        have hfar : ∀ k, (X2 k ∧ w.heap.size ≤ k) → ¬ Mt k := fun k h1 h2 => ((hMt k).1 h2).2 h1.1
        have hq0 : ∀ wx, Chg Mt w3 wx → wx.cell? ⟨tw, 0, none⟩ = some (.slice As ts.length cs) := fun wx h => h.cell HT3.out.cells.1 (hfar _ HT3.out.inS)
        have hq1 : ∀ wx, Chg Mt w3 wx → wx.cell? ⟨tw, 1, none⟩ = some (.slice Al tl.length cl) := fun wx h => h.cell HT3.out.cells.2.1 (hfar _ HT3.out.inS)
        have hq5 : ∀ wx, Chg Mt w3 wx → wx.cell? ⟨tw, 5, none⟩ = some (.bool td) := fun wx h => h.cell HT3.out.cells.2.2.2.2.2 (hfar _ HT3.out.inS)
        have hv0 : ∀ wx, Chg Mt w3 wx → (convert 22 9 (.slice As ts.length cs)).run Try.prog wx = .ok (.string (bstr ts)) wx := fun wx h => str_run (P := Try.prog) (src := 22) (dst := 9) (e := 5) Try.underlying22 Try.underlying5 Try.underlying9 rfl ((ks4.mono (fun k hk => HT3.out.safeS k hk)).chg h hfar) ks3 ks1
        have hv1 : ∀ wx, Chg Mt w3 wx → (convert 22 9 (.slice Al tl.length cl)).run Try.prog wx = .ok (.string (bstr tl)) wx := fun wx h => str_run (P := Try.prog) (src := 22) (dst := 9) (e := 5) Try.underlying22 Try.underlying5 Try.underlying9 rfl ((kl4.mono (fun k hk => HT3.out.looseS k hk)).chg h hfar) kl3 kl1
        have HMT := hid hMt
        have HOK := hid hok'
        have HLEN := hid hlen
        have HTB := hid hTb
        have HTS := hid hTs
        have HTR := hid hTr
        have HTD := hid hTd
        have hcat : bstr ts ++ bstr tl = bstr (ts ++ tl) := by
          apply ByteArray.ext
          simp [bstr]
        have hcs : ¬ 9223372036854775807 < (bstr ts).size + (bstr tl).size := by rw [bstr_size, bstr_size]; omega
        have hw1 : IntKind.i64.wrap (tr - (ts.length : Int)) = tr - (ts.length : Int) := IntWalk.i64_in _ (by omega)
        have hw2 : IntKind.i64.wrap (tr - (ts.length : Int) - (tl.length : Int)) = tr - (ts.length : Int) - (tl.length : Int) := IntWalk.i64_in _ (by omega)
        clear ks1 ks3 ks4 kl1 kl3 kl4 hTb hTs hTr hTd hok' hlen hfar hMt htw hans hT' hbk hXb hsz3 hlf
        go_wp2_with fail
        refine wpB_start (fun wx : World => Chg Mt w3 wx) (by kernel_rfl) ?_
        have hHeld : (fun wx : World => Chg Mt w3 wx) _ := (by first | assumption | exact Chg.drew (Chg.refl _ _) | (show _ ∧ _; refine ⟨?_, ?_⟩ <;> assumption) | (first | assumption | exact hHeld.trans h4.2 (fun k hk _ => (HMT.out k).2 hk) | exact hHeld.trans h5c (fun _ h _ => h.elim) | exact hHeld.drewN _))
        -- 0: t43 := move t5 : 24
        refine wpB_take (i := 0) (v := ?_) (get_of_drop rfl) (by kernel_rfl) (by kernel_rfl) (by kernel_rfl) (by kernel_rfl) (fun _ _ _ h => h) (Or.inl ⟨by rfl, ?_⟩) hHeld ?_
        rotate_left
        · (intro w hSw; (try dsimp only at hSw); go_simp <;> with_reducible rfl)
        try simp only [Act.put, List.setIfInBounds_toArray, List.set_cons_zero, List.set_cons_succ]
        -- 1: t44 := load 48 t8 : 48
        refine wpB_take (i := 1) (v := ?_) (get_of_drop rfl) (by kernel_rfl) (by kernel_rfl) (by kernel_rfl) (by kernel_rfl) (fun _ _ _ h => h) (Or.inl ⟨by rfl, ?_⟩) hHeld ?_
        rotate_left
        · (intro w hSw; (try dsimp only at hSw); go_simp <;> with_reducible rfl)
        try simp only [Act.put, List.setIfInBounds_toArray, List.set_cons_zero, List.set_cons_succ]
        -- 3: t46 := move t9 : 26
        refine wpB_take (i := 3) (v := ?_) (get_of_drop rfl) (by kernel_rfl) (by kernel_rfl) (by kernel_rfl) (by kernel_rfl) (fun _ _ _ h => h) (Or.inl ⟨by rfl, ?_⟩) hHeld ?_
        rotate_left
        · (intro w hSw; (try dsimp only at hSw); go_simp <;> with_reducible rfl)
        try simp only [Act.put, List.setIfInBounds_toArray, List.set_cons_zero, List.set_cons_succ]
        -- 2: t45 := CALL fn27(t43, t44) : 26
        refine wpB_act (i := 2) (by kernel_rfl) (get_of_drop rfl) (fun K hK => ?_)
        go_simp
        refine (lv_does (l := data) (R := fun k => k < w.heap.size) (HL3.out.drewN 1) HW.out HD.out.2.2.2.1 HD.out.1 HD.out.2.1 (HD.out.bytes.chg HCH.out.drew (fun k hk h => by have := h.2; omega)) (fun k hk => .inl hk)).mono ?_
        rintro e w4 ⟨rfl, h4⟩
        rw [← HT'.out] at h4
        rw [HANS.out]
        have H4 := hid h4.1
        refine hK.out _ _ ?_ (fun hHeld2 => ?_)
        · (first | assumption | exact hHeld.trans h4.2 (fun k hk _ => (HMT.out k).2 hk) | exact hHeld.trans h5c (fun _ h _ => h.elim) | exact hHeld.drewN _)
        clear hHeld hK K
        have hHeld := hHeld2
        clear hHeld2
        try simp only [Act.put, List.setIfInBounds_toArray, List.set_cons_zero, List.set_cons_succ]
        -- 4: t47 := binOp BinOp.neq 26 t45 t46 26 : 4
        refine wpB_take (i := 4) (v := ?_) (get_of_drop rfl) (by kernel_rfl) (by kernel_rfl) (by kernel_rfl) (by kernel_rfl) (fun _ _ _ h => h) (Or.inl ⟨by rfl, ?_⟩) hHeld ?_
        rotate_left
        · (intro w hSw; (try dsimp only at hSw); go_simp <;> with_reducible rfl)
        try simp only [Act.put, List.setIfInBounds_toArray, List.set_cons_zero, List.set_cons_succ]
        -- 5: t48 := move t47 : 4
        refine wpB_take (i := 5) (v := ?_) (get_of_drop rfl) (by kernel_rfl) (by kernel_rfl) (by kernel_rfl) (by kernel_rfl) (fun _ _ _ h => h) (Or.inl ⟨by rfl, ?_⟩) hHeld ?_
        rotate_left
        · (intro w hSw; (try dsimp only at hSw); go_simp <;> with_reducible rfl)
        try simp only [Act.put, List.setIfInBounds_toArray, List.set_cons_zero, List.set_cons_succ]
        -- 6: t49 := move t5 : 24   [if ⟨5, false⟩]
        refine wpB_take (i := 6) (v := ?_) (get_of_drop rfl) (by kernel_rfl) (by kernel_rfl) (by kernel_rfl) (by kernel_rfl) (fun _ _ _ h => h) (Or.inl ⟨by rfl, ?_⟩) hHeld ?_
        rotate_left
        · (intro w hSw; (try dsimp only at hSw); go_simp <;> with_reducible rfl)
        try simp only [Act.put, List.setIfInBounds_toArray, List.set_cons_zero, List.set_cons_succ]
        -- 9: t52 := move t6 : 51   [if ⟨5, false⟩]
        refine wpB_take (i := 9) (v := ?_) (get_of_drop rfl) (by kernel_rfl) (by kernel_rfl) (by kernel_rfl) (by kernel_rfl) (fun _ _ _ h => h) (Or.inl ⟨by rfl, ?_⟩) hHeld ?_
        rotate_left
        · (intro w hSw; (try dsimp only at hSw); go_simp <;> with_reducible rfl)
        try simp only [Act.put, List.setIfInBounds_toArray, List.set_cons_zero, List.set_cons_succ]
        -- 10: t53 := nilCheck t52 : 0   [if ⟨5, false⟩]
        refine wpB_take (i := 10) (v := ?_) (get_of_drop rfl) (by kernel_rfl) (by kernel_rfl) (by kernel_rfl) (by kernel_rfl) (fun _ _ _ h => h) (Or.inl ⟨by rfl, ?_⟩) hHeld ?_
        rotate_left
        · (intro w hSw; (try dsimp only at hSw); go_simp <;> with_reducible rfl)
        try simp only [Act.put, List.setIfInBounds_toArray, List.set_cons_zero, List.set_cons_succ]
        -- 11: t54 := fieldAddr 53 t53 0 : 0   [if ⟨5, false⟩]
        refine wpB_take (i := 11) (v := ?_) (get_of_drop rfl) (by kernel_rfl) (by kernel_rfl) (by kernel_rfl) (by kernel_rfl) (fun _ _ _ h => h) (Or.inl ⟨by rfl, ?_⟩) hHeld ?_
        rotate_left
        · (intro w hSw; (try dsimp only at hSw); go_simp <;> with_reducible rfl)
        try simp only [Act.put, List.setIfInBounds_toArray, List.set_cons_zero, List.set_cons_succ]
        -- 12: t55 := load 22 t54 : 22   [if ⟨5, false⟩]
        refine wpB_take (i := 12) (v := ?_) (get_of_drop rfl) (by kernel_rfl) (by kernel_rfl) (by kernel_rfl) (by kernel_rfl) (fun _ _ _ h => h) (Or.inl ⟨by rfl, ?_⟩) hHeld ?_
        rotate_left
        · (intro w hSw; (try dsimp only at hSw); go_simp <;> with_reducible rfl)
        try simp only [Act.put, List.setIfInBounds_toArray, List.set_cons_zero, List.set_cons_succ]
        -- 13: t56 := convert 22 9 t55 : 9   [if ⟨5, false⟩]
        refine wpB_take (i := 13) (v := ?_) (get_of_drop rfl) (by kernel_rfl) (by kernel_rfl) (by kernel_rfl) (by kernel_rfl) (fun _ _ _ h => h) (Or.inl ⟨by rfl, ?_⟩) hHeld ?_
        rotate_left
        · (intro w hSw; (try dsimp only at hSw); go_simp <;> with_reducible rfl)
        try simp only [Act.put, List.setIfInBounds_toArray, List.set_cons_zero, List.set_cons_succ]
        -- 14: t57 := move t6 : 51   [if ⟨5, false⟩]
        refine wpB_take (i := 14) (v := ?_) (get_of_drop rfl) (by kernel_rfl) (by kernel_rfl) (by kernel_rfl) (by kernel_rfl) (fun _ _ _ h => h) (Or.inl ⟨by rfl, ?_⟩) hHeld ?_
        rotate_left
        · (intro w hSw; (try dsimp only at hSw); go_simp <;> with_reducible rfl)
        try simp only [Act.put, List.setIfInBounds_toArray, List.set_cons_zero, List.set_cons_succ]
        -- 15: t58 := nilCheck t57 : 0   [if ⟨5, false⟩]
        refine wpB_take (i := 15) (v := ?_) (get_of_drop rfl) (by kernel_rfl) (by kernel_rfl) (by kernel_rfl) (by kernel_rfl) (fun _ _ _ h => h) (Or.inl ⟨by rfl, ?_⟩) hHeld ?_
        rotate_left
        · (intro w hSw; (try dsimp only at hSw); go_simp <;> with_reducible rfl)
        try simp only [Act.put, List.setIfInBounds_toArray, List.set_cons_zero, List.set_cons_succ]
        -- 16: t59 := fieldAddr 53 t58 1 : 0   [if ⟨5, false⟩]
        refine wpB_take (i := 16) (v := ?_) (get_of_drop rfl) (by kernel_rfl) (by kernel_rfl) (by kernel_rfl) (by kernel_rfl) (fun _ _ _ h => h) (Or.inl ⟨by rfl, ?_⟩) hHeld ?_
        rotate_left
        · (intro w hSw; (try dsimp only at hSw); go_simp <;> with_reducible rfl)
        try simp only [Act.put, List.setIfInBounds_toArray, List.set_cons_zero, List.set_cons_succ]
        -- 17: t60 := load 22 t59 : 22   [if ⟨5, false⟩]
        refine wpB_take (i := 17) (v := ?_) (get_of_drop rfl) (by kernel_rfl) (by kernel_rfl) (by kernel_rfl) (by kernel_rfl) (fun _ _ _ h => h) (Or.inl ⟨by rfl, ?_⟩) hHeld ?_
        rotate_left
        · (intro w hSw; (try dsimp only at hSw); go_simp <;> with_reducible rfl)
        try simp only [Act.put, List.setIfInBounds_toArray, List.set_cons_zero, List.set_cons_succ]
        -- 18: t61 := convert 22 9 t60 : 9   [if ⟨5, false⟩]
        refine wpB_take (i := 18) (v := ?_) (get_of_drop rfl) (by kernel_rfl) (by kernel_rfl) (by kernel_rfl) (by kernel_rfl) (fun _ _ _ h => h) (Or.inl ⟨by rfl, ?_⟩) hHeld ?_
        rotate_left
        · (intro w hSw; (try dsimp only at hSw); go_simp <;> with_reducible rfl)
        try simp only [Act.put, List.setIfInBounds_toArray, List.set_cons_zero, List.set_cons_succ]
        -- 19: t62 := binOp BinOp.add 9 t56 t61 9 : 9   [if ⟨5, false⟩]
        refine wpB_take (i := 19) (v := ?_) (get_of_drop rfl) (by kernel_rfl) (by kernel_rfl) (by kernel_rfl) (by kernel_rfl) (fun _ _ _ h => h) (Or.inl ⟨by rfl, ?_⟩) hHeld ?_
        rotate_left
        · (intro w hSw; (try dsimp only at hSw); go_simp <;> with_reducible rfl)
        try simp only [Act.put, List.setIfInBounds_toArray, List.set_cons_zero, List.set_cons_succ]
        -- 7: t50 := CALL fn17(t49) : 22   [if ⟨5, false⟩]
        refine wpB_act (i := 7) (by kernel_rfl) (get_of_drop rfl) (fun K hK => ?_)
        go_simp
        refine (lv_bytes H4.out).mono ?_
        rintro e w5 ⟨c5, rfl, h5, h5r, h5c, h5d⟩
        have H5 := hid h5
        rw [HTB.out] at h5r h5d ⊢
        obtain ⟨nb, hnb⟩ : ∃ nb, (ts ++ tl).length = nb := ⟨_, rfl⟩
        rw [hnb] at h5r h5d ⊢
        have HNB := hid hnb
        clear hnb
        have hs5 := str_run (P := Try.prog) (src := 22) (dst := 9) (e := 5) (l := ts ++ tl) Try.underlying22 Try.underlying5 Try.underlying9 HNB.out.symm (own_at h5r).2.2.2 (by simp) h5d
        refine hK.out _ _ ?_ (fun hHeld2 => ?_)
        · (first | assumption | exact hHeld.trans h4.2 (fun k hk _ => (HMT.out k).2 hk) | exact hHeld.trans h5c (fun _ h _ => h.elim) | exact hHeld.drewN _)
        clear hHeld hK K
        have hHeld := hHeld2
        clear hHeld2
        try simp only [Act.put, List.setIfInBounds_toArray, List.set_cons_zero, List.set_cons_succ]
        -- 8: t51 := convert 22 9 t50 : 9   [if ⟨5, false⟩]
        refine wpB_act (i := 8) (by kernel_rfl) (get_of_drop rfl) (fun K hK => ?_)
        go_simp
        refine hK.out _ _ ?_ (fun hHeld2 => ?_)
        · (first | assumption | exact hHeld.trans h4.2 (fun k hk _ => (HMT.out k).2 hk) | exact hHeld.trans h5c (fun _ h _ => h.elim) | exact hHeld.drewN _)
        clear hHeld hK K
        have hHeld := hHeld2
        clear hHeld2
        try simp only [Act.put, List.setIfInBounds_toArray, List.set_cons_zero, List.set_cons_succ]
        -- 20: t63 := binOp BinOp.neq 9 t51 t62 9 : 4   [if ⟨5, false⟩]
        refine wpB_take (i := 20) (v := ?_) (get_of_drop rfl) (by kernel_rfl) (by kernel_rfl) (by kernel_rfl) (by kernel_rfl) (fun _ _ _ h => h) (Or.inl ⟨by rfl, ?_⟩) hHeld ?_
        rotate_left
        · (intro w hSw; (try dsimp only at hSw); go_simp <;> with_reducible rfl)
        try simp only [Act.put, List.setIfInBounds_toArray, List.set_cons_zero, List.set_cons_succ]
        -- 21: t64 := pick t48 #true t63 : 4
        refine wpB_take (i := 21) (v := ?_) (get_of_drop rfl) (by kernel_rfl) (by kernel_rfl) (by kernel_rfl) (by kernel_rfl) (fun _ _ _ h => h) (Or.inl ⟨by rfl, ?_⟩) hHeld ?_
        rotate_left
        · (intro w hSw; (try dsimp only at hSw); go_simp <;> with_reducible rfl)
        try simp only [Act.put, List.setIfInBounds_toArray, List.set_cons_zero, List.set_cons_succ]
        -- 22: t65 := move t64 : 4
        refine wpB_take (i := 22) (v := ?_) (get_of_drop rfl) (by kernel_rfl) (by kernel_rfl) (by kernel_rfl) (by kernel_rfl) (fun _ _ _ h => h) (Or.inl ⟨by rfl, ?_⟩) hHeld ?_
        rotate_left
        · (intro w hSw; (try dsimp only at hSw); go_simp <;> with_reducible rfl)
        try simp only [Act.put, List.setIfInBounds_toArray, List.set_cons_zero, List.set_cons_succ]
        -- 23: t66 := move t5 : 24   [if ⟨22, false⟩]
        refine wpB_take (i := 23) (v := ?_) (get_of_drop rfl) (by kernel_rfl) (by kernel_rfl) (by kernel_rfl) (by kernel_rfl) (fun _ _ _ h => h) (Or.inl ⟨by rfl, ?_⟩) hHeld ?_
        rotate_left
        · (intro w hSw; (try dsimp only at hSw); go_simp <;> with_reducible rfl)
        try simp only [Act.put, List.setIfInBounds_toArray, List.set_cons_zero, List.set_cons_succ]
        -- 25: t68 := move t6 : 51   [if ⟨22, false⟩]
        refine wpB_take (i := 25) (v := ?_) (get_of_drop rfl) (by kernel_rfl) (by kernel_rfl) (by kernel_rfl) (by kernel_rfl) (fun _ _ _ h => h) (Or.inl ⟨by rfl, ?_⟩) hHeld ?_
        rotate_left
        · (intro w hSw; (try dsimp only at hSw); go_simp <;> with_reducible rfl)
        try simp only [Act.put, List.setIfInBounds_toArray, List.set_cons_zero, List.set_cons_succ]
        -- 26: t69 := nilCheck t68 : 0   [if ⟨22, false⟩]
        refine wpB_take (i := 26) (v := ?_) (get_of_drop rfl) (by kernel_rfl) (by kernel_rfl) (by kernel_rfl) (by kernel_rfl) (fun _ _ _ h => h) (Or.inl ⟨by rfl, ?_⟩) hHeld ?_
        rotate_left
        · (intro w hSw; (try dsimp only at hSw); go_simp <;> with_reducible rfl)
        try simp only [Act.put, List.setIfInBounds_toArray, List.set_cons_zero, List.set_cons_succ]
        -- 27: t70 := fieldAddr 53 t69 0 : 0   [if ⟨22, false⟩]
        refine wpB_take (i := 27) (v := ?_) (get_of_drop rfl) (by kernel_rfl) (by kernel_rfl) (by kernel_rfl) (by kernel_rfl) (fun _ _ _ h => h) (Or.inl ⟨by rfl, ?_⟩) hHeld ?_
        rotate_left
        · (intro w hSw; (try dsimp only at hSw); go_simp <;> with_reducible rfl)
        try simp only [Act.put, List.setIfInBounds_toArray, List.set_cons_zero, List.set_cons_succ]
        -- 28: t71 := load 22 t70 : 22   [if ⟨22, false⟩]
        refine wpB_take (i := 28) (v := ?_) (get_of_drop rfl) (by kernel_rfl) (by kernel_rfl) (by kernel_rfl) (by kernel_rfl) (fun _ _ _ h => h) (Or.inl ⟨by rfl, ?_⟩) hHeld ?_
        rotate_left
        · (intro w hSw; (try dsimp only at hSw); go_simp <;> with_reducible rfl)
        try simp only [Act.put, List.setIfInBounds_toArray, List.set_cons_zero, List.set_cons_succ]
        -- 29: t72 := len(t71) types [22] : 3   [if ⟨22, false⟩]
        refine wpB_take (i := 29) (v := ?_) (get_of_drop rfl) (by kernel_rfl) (by kernel_rfl) (by kernel_rfl) (by kernel_rfl) (fun _ _ _ h => h) (Or.inl ⟨by rfl, ?_⟩) hHeld ?_
        rotate_left
        · (intro w hSw; (try dsimp only at hSw); go_simp <;> with_reducible rfl)
        try simp only [Act.put, List.setIfInBounds_toArray, List.set_cons_zero, List.set_cons_succ]
        -- 24: t67 := CALL fn18(t66) : 3   [if ⟨22, false⟩]
        refine wpB_act (i := 24) (by kernel_rfl) (get_of_drop rfl) (fun K hK => ?_)
        go_simp
        refine (lv_safe H5.out).mono ?_
        rintro e w6 ⟨rfl, rfl⟩
        rw [HTS.out]
        refine hK.out _ _ ?_ (fun hHeld2 => ?_)
        · (first | assumption | exact hHeld.trans h4.2 (fun k hk _ => (HMT.out k).2 hk) | exact hHeld.trans h5c (fun _ h _ => h.elim) | exact hHeld.drewN _)
        clear hHeld hK K
        have hHeld := hHeld2
        clear hHeld2
        try simp only [Act.put, List.setIfInBounds_toArray, List.set_cons_zero, List.set_cons_succ]
        -- 30: t73 := binOp BinOp.neq 3 t67 t72 3 : 4   [if ⟨22, false⟩]
        refine wpB_take (i := 30) (v := ?_) (get_of_drop rfl) (by kernel_rfl) (by kernel_rfl) (by kernel_rfl) (by kernel_rfl) (fun _ _ _ h => h) (Or.inl ⟨by rfl, ?_⟩) hHeld ?_
        rotate_left
        · (intro w hSw; (try dsimp only at hSw); go_simp <;> with_reducible rfl)
        try simp only [Act.put, List.setIfInBounds_toArray, List.set_cons_zero, List.set_cons_succ]
        -- 31: t74 := pick t65 #true t73 : 4
        refine wpB_take (i := 31) (v := ?_) (get_of_drop rfl) (by kernel_rfl) (by kernel_rfl) (by kernel_rfl) (by kernel_rfl) (fun _ _ _ h => h) (Or.inl ⟨by rfl, ?_⟩) hHeld ?_
        rotate_left
        · (intro w hSw; (try dsimp only at hSw); go_simp <;> with_reducible rfl)
        try simp only [Act.put, List.setIfInBounds_toArray, List.set_cons_zero, List.set_cons_succ]
        -- 32: t75 := move t74 : 4
        refine wpB_take (i := 32) (v := ?_) (get_of_drop rfl) (by kernel_rfl) (by kernel_rfl) (by kernel_rfl) (by kernel_rfl) (fun _ _ _ h => h) (Or.inl ⟨by rfl, ?_⟩) hHeld ?_
        rotate_left
        · (intro w hSw; (try dsimp only at hSw); go_simp <;> with_reducible rfl)
        try simp only [Act.put, List.setIfInBounds_toArray, List.set_cons_zero, List.set_cons_succ]
        -- 33: t76 := move t5 : 24   [if ⟨32, false⟩]
        refine wpB_take (i := 33) (v := ?_) (get_of_drop rfl) (by kernel_rfl) (by kernel_rfl) (by kernel_rfl) (by kernel_rfl) (fun _ _ _ h => h) (Or.inl ⟨by rfl, ?_⟩) hHeld ?_
        rotate_left
        · (intro w hSw; (try dsimp only at hSw); go_simp <;> with_reducible rfl)
        try simp only [Act.put, List.setIfInBounds_toArray, List.set_cons_zero, List.set_cons_succ]
        -- 35: t78 := move t0 : 3   [if ⟨32, false⟩]
        refine wpB_take (i := 35) (v := ?_) (get_of_drop rfl) (by kernel_rfl) (by kernel_rfl) (by kernel_rfl) (by kernel_rfl) (fun _ _ _ h => h) (Or.inl ⟨by rfl, ?_⟩) hHeld ?_
        rotate_left
        · (intro w hSw; (try dsimp only at hSw); go_simp <;> with_reducible rfl)
        try simp only [Act.put, List.setIfInBounds_toArray, List.set_cons_zero, List.set_cons_succ]
        -- 36: t79 := move t6 : 51   [if ⟨32, false⟩]
        refine wpB_take (i := 36) (v := ?_) (get_of_drop rfl) (by kernel_rfl) (by kernel_rfl) (by kernel_rfl) (by kernel_rfl) (fun _ _ _ h => h) (Or.inl ⟨by rfl, ?_⟩) hHeld ?_
        rotate_left
        · (intro w hSw; (try dsimp only at hSw); go_simp <;> with_reducible rfl)
        try simp only [Act.put, List.setIfInBounds_toArray, List.set_cons_zero, List.set_cons_succ]
        -- 37: t80 := nilCheck t79 : 0   [if ⟨32, false⟩]
        refine wpB_take (i := 37) (v := ?_) (get_of_drop rfl) (by kernel_rfl) (by kernel_rfl) (by kernel_rfl) (by kernel_rfl) (fun _ _ _ h => h) (Or.inl ⟨by rfl, ?_⟩) hHeld ?_
        rotate_left
        · (intro w hSw; (try dsimp only at hSw); go_simp <;> with_reducible rfl)
        try simp only [Act.put, List.setIfInBounds_toArray, List.set_cons_zero, List.set_cons_succ]
        -- 38: t81 := fieldAddr 53 t80 0 : 0   [if ⟨32, false⟩]
        refine wpB_take (i := 38) (v := ?_) (get_of_drop rfl) (by kernel_rfl) (by kernel_rfl) (by kernel_rfl) (by kernel_rfl) (fun _ _ _ h => h) (Or.inl ⟨by rfl, ?_⟩) hHeld ?_
        rotate_left
        · (intro w hSw; (try dsimp only at hSw); go_simp <;> with_reducible rfl)
        try simp only [Act.put, List.setIfInBounds_toArray, List.set_cons_zero, List.set_cons_succ]
        -- 39: t82 := load 22 t81 : 22   [if ⟨32, false⟩]
        refine wpB_take (i := 39) (v := ?_) (get_of_drop rfl) (by kernel_rfl) (by kernel_rfl) (by kernel_rfl) (by kernel_rfl) (fun _ _ _ h => h) (Or.inl ⟨by rfl, ?_⟩) hHeld ?_
        rotate_left
        · (intro w hSw; (try dsimp only at hSw); go_simp <;> with_reducible rfl)
        try simp only [Act.put, List.setIfInBounds_toArray, List.set_cons_zero, List.set_cons_succ]
        -- 40: t83 := len(t82) types [22] : 3   [if ⟨32, false⟩]
        refine wpB_take (i := 40) (v := ?_) (get_of_drop rfl) (by kernel_rfl) (by kernel_rfl) (by kernel_rfl) (by kernel_rfl) (fun _ _ _ h => h) (Or.inl ⟨by rfl, ?_⟩) hHeld ?_
        rotate_left
        · (intro w hSw; (try dsimp only at hSw); go_simp <;> with_reducible rfl)
        try simp only [Act.put, List.setIfInBounds_toArray, List.set_cons_zero, List.set_cons_succ]
        -- 41: t84 := binOp BinOp.sub 3 t78 t83 3 : 3   [if ⟨32, false⟩]
        refine wpB_take (i := 41) (v := ?_) (get_of_drop rfl) (by kernel_rfl) (by kernel_rfl) (by kernel_rfl) (by kernel_rfl) (fun _ _ _ h => h) (Or.inl ⟨by rfl, ?_⟩) hHeld ?_
        rotate_left
        · (intro w hSw; (try dsimp only at hSw); go_simp <;> with_reducible rfl)
        try simp only [Act.put, List.setIfInBounds_toArray, List.set_cons_zero, List.set_cons_succ]
        -- 42: t85 := move t6 : 51   [if ⟨32, false⟩]
        refine wpB_take (i := 42) (v := ?_) (get_of_drop rfl) (by kernel_rfl) (by kernel_rfl) (by kernel_rfl) (by kernel_rfl) (fun _ _ _ h => h) (Or.inl ⟨by rfl, ?_⟩) hHeld ?_
        rotate_left
        · (intro w hSw; (try dsimp only at hSw); go_simp <;> with_reducible rfl)
        try simp only [Act.put, List.setIfInBounds_toArray, List.set_cons_zero, List.set_cons_succ]
        -- 43: t86 := nilCheck t85 : 0   [if ⟨32, false⟩]
        refine wpB_take (i := 43) (v := ?_) (get_of_drop rfl) (by kernel_rfl) (by kernel_rfl) (by kernel_rfl) (by kernel_rfl) (fun _ _ _ h => h) (Or.inl ⟨by rfl, ?_⟩) hHeld ?_
        rotate_left
        · (intro w hSw; (try dsimp only at hSw); go_simp <;> with_reducible rfl)
        try simp only [Act.put, List.setIfInBounds_toArray, List.set_cons_zero, List.set_cons_succ]
        -- 44: t87 := fieldAddr 53 t86 1 : 0   [if ⟨32, false⟩]
        refine wpB_take (i := 44) (v := ?_) (get_of_drop rfl) (by kernel_rfl) (by kernel_rfl) (by kernel_rfl) (by kernel_rfl) (fun _ _ _ h => h) (Or.inl ⟨by rfl, ?_⟩) hHeld ?_
        rotate_left
        · (intro w hSw; (try dsimp only at hSw); go_simp <;> with_reducible rfl)
        try simp only [Act.put, List.setIfInBounds_toArray, List.set_cons_zero, List.set_cons_succ]
        -- 45: t88 := load 22 t87 : 22   [if ⟨32, false⟩]
        refine wpB_take (i := 45) (v := ?_) (get_of_drop rfl) (by kernel_rfl) (by kernel_rfl) (by kernel_rfl) (by kernel_rfl) (fun _ _ _ h => h) (Or.inl ⟨by rfl, ?_⟩) hHeld ?_
        rotate_left
        · (intro w hSw; (try dsimp only at hSw); go_simp <;> with_reducible rfl)
        try simp only [Act.put, List.setIfInBounds_toArray, List.set_cons_zero, List.set_cons_succ]
        -- 46: t89 := len(t88) types [22] : 3   [if ⟨32, false⟩]
        refine wpB_take (i := 46) (v := ?_) (get_of_drop rfl) (by kernel_rfl) (by kernel_rfl) (by kernel_rfl) (by kernel_rfl) (fun _ _ _ h => h) (Or.inl ⟨by rfl, ?_⟩) hHeld ?_
        rotate_left
        · (intro w hSw; (try dsimp only at hSw); go_simp <;> with_reducible rfl)
        try simp only [Act.put, List.setIfInBounds_toArray, List.set_cons_zero, List.set_cons_succ]
        -- 47: t90 := binOp BinOp.sub 3 t84 t89 3 : 3   [if ⟨32, false⟩]
        refine wpB_take (i := 47) (v := ?_) (get_of_drop rfl) (by kernel_rfl) (by kernel_rfl) (by kernel_rfl) (by kernel_rfl) (fun _ _ _ h => h) (Or.inl ⟨by rfl, ?_⟩) hHeld ?_
        rotate_left
        · (intro w hSw; (try dsimp only at hSw); go_simp <;> with_reducible rfl)
        try simp only [Act.put, List.setIfInBounds_toArray, List.set_cons_zero, List.set_cons_succ]
        -- 34: t77 := CALL fn25(t76) : 3   [if ⟨32, false⟩]
        refine wpB_act (i := 34) (by kernel_rfl) (get_of_drop rfl) (fun K hK => ?_)
        go_simp
        refine (lv_room H5.out).mono ?_
        rintro e w6 ⟨rfl, n6, rfl⟩
        rw [show (T'.room - (T'.b.length : Int)) = tr - (ts.length : Int) - (tl.length : Int) by rw [HTB.out, List.length_append, HTR.out]; omega]
        refine hK.out _ _ ?_ (fun hHeld2 => ?_)
        · (first | assumption | exact hHeld.trans h4.2 (fun k hk _ => (HMT.out k).2 hk) | exact hHeld.trans h5c (fun _ h _ => h.elim) | exact hHeld.drewN _)
        clear hHeld hK K
        have hHeld := hHeld2
        clear hHeld2
        try simp only [Act.put, List.setIfInBounds_toArray, List.set_cons_zero, List.set_cons_succ]
        -- 48: t91 := binOp BinOp.neq 3 t77 t90 3 : 4   [if ⟨32, false⟩]
        refine wpB_take (i := 48) (v := ?_) (get_of_drop rfl) (by kernel_rfl) (by kernel_rfl) (by kernel_rfl) (by kernel_rfl) (fun _ _ _ h => h) (Or.inl ⟨by rfl, ?_⟩) hHeld ?_
        rotate_left
        · (intro w hSw; (try dsimp only at hSw); go_simp <;> with_reducible rfl)
        try simp only [Act.put, List.setIfInBounds_toArray, List.set_cons_zero, List.set_cons_succ]
        -- 49: t92 := pick t75 #true t91 : 4
        refine wpB_take (i := 49) (v := ?_) (get_of_drop rfl) (by kernel_rfl) (by kernel_rfl) (by kernel_rfl) (by kernel_rfl) (fun _ _ _ h => h) (Or.inl ⟨by rfl, ?_⟩) hHeld ?_
        rotate_left
        · (intro w hSw; (try dsimp only at hSw); go_simp <;> with_reducible rfl)
        try simp only [Act.put, List.setIfInBounds_toArray, List.set_cons_zero, List.set_cons_succ]
        -- 50: t93 := move t92 : 4
        refine wpB_take (i := 50) (v := ?_) (get_of_drop rfl) (by kernel_rfl) (by kernel_rfl) (by kernel_rfl) (by kernel_rfl) (fun _ _ _ h => h) (Or.inl ⟨by rfl, ?_⟩) hHeld ?_
        rotate_left
        · (intro w hSw; (try dsimp only at hSw); go_simp <;> with_reducible rfl)
        try simp only [Act.put, List.setIfInBounds_toArray, List.set_cons_zero, List.set_cons_succ]
        -- 51: t94 := move t5 : 24   [if ⟨50, false⟩]
        refine wpB_take (i := 51) (v := ?_) (get_of_drop rfl) (by kernel_rfl) (by kernel_rfl) (by kernel_rfl) (by kernel_rfl) (fun _ _ _ h => h) (Or.inl ⟨by rfl, ?_⟩) hHeld ?_
        rotate_left
        · (intro w hSw; (try dsimp only at hSw); go_simp <;> with_reducible rfl)
        try simp only [Act.put, List.setIfInBounds_toArray, List.set_cons_zero, List.set_cons_succ]
        -- 53: t96 := move t6 : 51   [if ⟨50, false⟩]
        refine wpB_take (i := 53) (v := ?_) (get_of_drop rfl) (by kernel_rfl) (by kernel_rfl) (by kernel_rfl) (by kernel_rfl) (fun _ _ _ h => h) (Or.inl ⟨by rfl, ?_⟩) hHeld ?_
        rotate_left
        · (intro w hSw; (try dsimp only at hSw); go_simp <;> with_reducible rfl)
        try simp only [Act.put, List.setIfInBounds_toArray, List.set_cons_zero, List.set_cons_succ]
        -- 54: t97 := nilCheck t96 : 0   [if ⟨50, false⟩]
        refine wpB_take (i := 54) (v := ?_) (get_of_drop rfl) (by kernel_rfl) (by kernel_rfl) (by kernel_rfl) (by kernel_rfl) (fun _ _ _ h => h) (Or.inl ⟨by rfl, ?_⟩) hHeld ?_
        rotate_left
        · (intro w hSw; (try dsimp only at hSw); go_simp <;> with_reducible rfl)
        try simp only [Act.put, List.setIfInBounds_toArray, List.set_cons_zero, List.set_cons_succ]
        -- 55: t98 := fieldAddr 53 t97 5 : 0   [if ⟨50, false⟩]
        refine wpB_take (i := 55) (v := ?_) (get_of_drop rfl) (by kernel_rfl) (by kernel_rfl) (by kernel_rfl) (by kernel_rfl) (fun _ _ _ h => h) (Or.inl ⟨by rfl, ?_⟩) hHeld ?_
        rotate_left
        · (intro w hSw; (try dsimp only at hSw); go_simp <;> with_reducible rfl)
        try simp only [Act.put, List.setIfInBounds_toArray, List.set_cons_zero, List.set_cons_succ]
        -- 56: t99 := load 4 t98 : 4   [if ⟨50, false⟩]
        refine wpB_take (i := 56) (v := ?_) (get_of_drop rfl) (by kernel_rfl) (by kernel_rfl) (by kernel_rfl) (by kernel_rfl) (fun _ _ _ h => h) (Or.inl ⟨by rfl, ?_⟩) hHeld ?_
        rotate_left
        · (intro w hSw; (try dsimp only at hSw); go_simp <;> with_reducible rfl)
        try simp only [Act.put, List.setIfInBounds_toArray, List.set_cons_zero, List.set_cons_succ]
        -- 52: t95 := CALL fn29(t94) : 4   [if ⟨50, false⟩]
        refine wpB_act (i := 52) (by kernel_rfl) (get_of_drop rfl) (fun K hK => ?_)
        go_simp
        refine (lv_down (H5.out.drewN n6)).mono ?_
        rintro e w7 ⟨rfl, rfl⟩
        rw [HTD.out]
        refine hK.out _ _ ?_ (fun hHeld2 => ?_)
        · (first | assumption | exact hHeld.trans h4.2 (fun k hk _ => (HMT.out k).2 hk) | exact hHeld.trans h5c (fun _ h _ => h.elim) | exact hHeld.drewN _)
        clear hHeld hK K
        have hHeld := hHeld2
        clear hHeld2
        try simp only [Act.put, List.setIfInBounds_toArray, List.set_cons_zero, List.set_cons_succ]
        -- 57: t100 := binOp BinOp.neq 4 t95 t99 4 : 4   [if ⟨50, false⟩]
        refine wpB_take (i := 57) (v := ?_) (get_of_drop rfl) (by kernel_rfl) (by kernel_rfl) (by kernel_rfl) (by kernel_rfl) (fun _ _ _ h => h) (Or.inl ⟨by rfl, ?_⟩) hHeld ?_
        rotate_left
        · (intro w hSw; (try dsimp only at hSw); go_simp <;> with_reducible rfl)
        try simp only [Act.put, List.setIfInBounds_toArray, List.set_cons_zero, List.set_cons_succ]
        -- 58: t101 := pick t93 #true t100 : 4
        refine wpB_take (i := 58) (v := ?_) (get_of_drop rfl) (by kernel_rfl) (by kernel_rfl) (by kernel_rfl) (by kernel_rfl) (fun _ _ _ h => h) (Or.inl ⟨by rfl, ?_⟩) hHeld ?_
        rotate_left
        · (intro w hSw; (try dsimp only at hSw); go_simp <;> with_reducible rfl)
        try simp only [Act.put, List.setIfInBounds_toArray, List.set_cons_zero, List.set_cons_succ]
        refine wpB_done (by kernel_rfl) ?_ _
        have HE := hid hHeld
        have HX := hid (show PlayAt w tp tw tr _ T' ⟨ts, tl, tr, tlf, ta, td⟩ _ _ _ from ⟨H5.out.drewN n6, (HT3.out.chg hHeld (fun k h1 h2 => ((HMT.out k).1 h2).2 h1.1)).mono (fun k hk => ⟨.inl hk.1, hk.2⟩), HTWN.out, rfl, HLF.out⟩)
        clear hHeld hx0 hx1 hx2 hq0 hq1 hq5 hv0 hv1
        go_wp2_with fail
        go_roundw
        case measure => simp [intOf]; omega
        case rel => first | exact ⟨k + 1, by omega, by go_num, _, _, _, _, _, HX.out⟩ | ((repeat apply Exists.intro); exact ⟨⟨k + 1, by omega, by go_num, _, _, _, _, _, HX.out⟩, rfl⟩)
    · go_wp2_with fail
      go_ret
      exact ⟨rfl, HP.out.lv.below⟩

theorem TapePlays_walk (w : World) (room : Int) (wf : (Lit.int .i64 room).wf = true) (A : Option Addr) (n c : Nat) (ops : List C.Op) (ha : Ty.At opK w (fun k => k < w.heap.size) A n c ops) :
    Calls Try.prog 9 #[.int .i64 room, .slice A n c] w fun e w' => e = .returned (.bool true) ∧ Below w.heap.size w w' := by
  by_cases h : n ≤ 80
  · by_cases hr : room < 0 ∨ 1048576 < room
    · exact plays_no w room A n c h hr
    · exact plays_in w room A n c ops ha h (by omega) (by omega)
  · exact plays_out w room A n c (by omega)
end Go.Proofs.Ytmllakklhbmboaa.T
