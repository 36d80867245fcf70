/- Post's methods in a law: the law's own other blocks X are left alone, and so is all that was there ahead of it. And the anchor of layer 17. -/
import Derived.Test.YtmllakklhbmboaaPostD
import Derived.Lib.SlBytesConst
namespace Go.Proofs.Ytmllakklhbmboaa.Po
set_option linter.unusedVariables false
set_option linter.unusedSimpArgs false
open Go.RowKit Go.Proofs.Ytmllakklhbmboaa.C
attribute [local go_sem] max2_int min2_int max_two min_two

structure LvP (w0 w : World) (X : Nat → Prop) (g : Nat) (ps : List Pk) : Prop where
  ex : ∃ S v, PostAt w S g v ps ∧ ∀ k, S k → k < w.heap.size → w0.heap.size ≤ k ∧ ¬ X k
  below : Below w0.heap.size w0 w
  xlt : ∀ k, X k → k < w.heap.size
  len : ps.length ≤ 4096
  big : ∀ x ∈ ps, x.data.length ≤ 65546
def LvPTo (w0 : World) (X : Nat → Prop) (g : Nat) (ps : List Pk) (w w' : World) : Prop := LvP w0 w' X g ps ∧ Chg (fun k => w0.heap.size ≤ k ∧ ¬ X k) w w'
theorem LvP.size {w0 w : World} {X : Nat → Prop} {g : Nat} {ps : List Pk} (h : LvP w0 w X g ps) : w0.heap.size ≤ w.heap.size := h.below.size
theorem LvP.bnd {w0 w : World} {X : Nat → Prop} {g : Nat} {ps : List Pk} (h : LvP w0 w X g ps) : ∃ S v, PostAt w S g v ps ∧ ∀ k, S k → k < w.heap.size ∧ w0.heap.size ≤ k ∧ ¬ X k := by
  obtain ⟨S, v, hp, hS⟩ := h.ex
  exact ⟨fun k => S k ∧ k < w.heap.size, v, hp.mono (fun k h1 h2 => ⟨h1, h2⟩), fun k hk => ⟨hk.2, hS k hk.1 hk.2⟩⟩
/-- The law writes blocks of its own, and makes new ones, which are its own, too. -/
theorem LvP.since {w0 w w' : World} {X : Nat → Prop} {g : Nat} {ps : List Pk} (h : LvP w0 w X g ps) (hc : Chg (fun k => X k ∧ w0.heap.size ≤ k) w w') : LvP w0 w' (fun k => X k ∨ (w.heap.size ≤ k ∧ k < w'.heap.size)) g ps := by
  obtain ⟨S, v, hp, hS⟩ := h.bnd
  refine ⟨⟨S, v, hp.chg hc (fun k hk _ hx => (hS k hk).2.2 hx.1), fun k hk _ => ⟨(hS k hk).2.1, fun hx => ?_⟩⟩, h.below.trans (hc.below h.size (fun k hk => hk.2)), fun k hk => ?_, h.len, h.big⟩
  · rcases hx with hx | hx
    · exact (hS k hk).2.2 hx
    · have := (hS k hk).1; omega
  · rcases hk with hk | hk
    · exact Nat.lt_of_lt_of_le (h.xlt k hk) hc.size
    · exact hk.2
theorem LvP.sub {w0 w : World} {X X' : Nat → Prop} {g : Nat} {ps : List Pk} (h : LvP w0 w X g ps) (hs : ∀ k, X' k → X k) : LvP w0 w X' g ps :=
  ⟨by obtain ⟨S, v, hp, hS⟩ := h.ex; exact ⟨S, v, hp, fun k h1 h2 => ⟨(hS k h1 h2).1, fun hx => (hS k h1 h2).2 (hs k hx)⟩⟩, h.below, fun k hk => h.xlt k (hs k hk), h.len, h.big⟩
/-- Nothing that was there is written. -/
theorem LvP.new {w0 w w' : World} {X : Nat → Prop} {g : Nat} {ps : List Pk} (h : LvP w0 w X g ps) (hc : Chg (fun _ => False) w w') : LvP w0 w' X g ps := (h.since (hc.mono (fun _ h _ => h.elim))).sub (fun k hk => .inl hk)
theorem lp_of_upd {w0 w w' : World} {X S : Nat → Prop} {g : Nat} {ps ps' : List Pk} (h : LvP w0 w X g ps) (hS : ∀ k, S k → k < w.heap.size ∧ w0.heap.size ≤ k ∧ ¬ X k) (hu : UpdP S g ps' w w') (hl : ps'.length ≤ 4096) (hb : ∀ x ∈ ps', x.data.length ≤ 65546) : LvPTo w0 X g ps' w w' := by
  obtain ⟨v, hp, hc⟩ := hu
  have hc' : Chg (fun k => w0.heap.size ≤ k ∧ ¬ X k) w w' := hc.mono (fun k hk _ => (hS k hk).2)
  refine ⟨⟨⟨_, v, hp, fun k hk _ => ?_⟩, h.below.trans (hc'.below h.size (fun k hk => hk.1)), fun k hk => Nat.lt_of_lt_of_le (h.xlt k hk) hc.size, hl, hb⟩, hc'⟩
  rcases hk with hk | hk
  · exact (hS k hk).2
  · exact ⟨Nat.le_trans h.size hk, fun hx => by have := h.xlt k hx; omega⟩

theorem sendP_len {ps : List Pk} (x : Pk) (h : ps.length ≤ 4096) : (sendP ps x).1.length ≤ 4096 := by
  unfold sendP
  split
  · exact h
  · split
    · exact h
    · simp; omega
theorem sendP_big {ps : List Pk} (x : Pk) (h : ∀ x ∈ ps, x.data.length ≤ 65546) : ∀ y ∈ (sendP ps x).1, y.data.length ≤ 65546 := by
  unfold sendP
  split
  · exact h
  · split
    · exact h
    · intro y hy
      rcases List.mem_append.1 hy with hy | hy
      · exact h y hy
      · rw [List.mem_singleton.1 hy]; omega
theorem copyP_len {ps : List Pk} (i : Int) (h : ps.length ≤ 4096) : (copyP ps i).1.length ≤ 4096 := by
  unfold copyP
  split
  · exact sendP_len _ h
  · exact h
theorem copyP_big {ps : List Pk} (i : Int) (h : ∀ x ∈ ps, x.data.length ≤ 65546) : ∀ y ∈ (copyP ps i).1, y.data.length ≤ 65546 := by
  unfold copyP
  split
  · exact sendP_big _ h
  · exact h
theorem takeP_len {ps : List Pk} (i : Int) (h : ps.length ≤ 4096) : (takeP ps i).1.length ≤ 4096 := by
  unfold takeP
  split
  · exact Nat.le_trans (List.length_eraseIdx_le _ _) h
  · exact h
theorem takeP_big {ps : List Pk} (i : Int) (h : ∀ x ∈ ps, x.data.length ≤ 65546) : ∀ y ∈ (takeP ps i).1, y.data.length ≤ 65546 := by
  unfold takeP
  split
  · intro y hy; exact h y (List.mem_of_mem_eraseIdx hy)
  · exact h

theorem lp_new (w0 w : World) (X : Nat → Prop) (hb : Below w0.heap.size w0 w) (hx : ∀ k, X k → k < w.heap.size) :
    Calls Try.prog 20 #[] w fun e w' => e = .returned (.pointer (some ⟨w.heap.size, 0, none⟩)) ∧ LvPTo w0 X w.heap.size [] w w' := by
  refine (new_any w).mono ?_
  rintro e w' ⟨rfl, hp, hc⟩
  exact ⟨rfl, ⟨⟨_, _, hp, fun k hk _ => ⟨Nat.le_trans hb.size hk, fun h => by have := hx k h; omega⟩⟩, hb.trans (hc.below hb.size (fun _ h => h.elim)), fun k hk => Nat.lt_of_lt_of_le (hx k hk) hc.size, by simp, by simp⟩, hc.mono (fun _ h _ => h.elim)⟩
theorem lp_send {w0 w : World} {X R : Nat → Prop} {g : Nat} {ps : List Pk} (x : Pk) {A : Option Addr} {n c : Nat} (h : LvP w0 w X g ps) (hx : PkAt w R x A n c) :
    Calls Try.prog 21 #[.pointer (some ⟨g, 0, none⟩), .agg #[.int .i64 x.src, .int .i64 x.dst, .slice A n c]] w fun e w' => e = .returned (.int .i64 (sendP ps x).2) ∧ LvPTo w0 X g (sendP ps x).1 w w' := by
  obtain ⟨S, v, hp, hS⟩ := h.bnd
  refine (send_any S R g v ps x A n c w hp h.len hx).mono ?_
  rintro e w' ⟨rfl, hu⟩
  exact ⟨rfl, lp_of_upd h hS hu (sendP_len x h.len) (sendP_big x h.big)⟩
theorem lp_copy {w0 w : World} {X : Nat → Prop} {g : Nat} {ps : List Pk} (i : Int) (h : LvP w0 w X g ps) :
    Calls Try.prog 22 #[.pointer (some ⟨g, 0, none⟩), .int .i64 i] w fun e w' => e = .returned (.int .i64 (copyP ps i).2) ∧ LvPTo w0 X g (copyP ps i).1 w w' := by
  obtain ⟨S, v, hp, hS⟩ := h.bnd
  refine (copy_any S g v ps i w hp h.len).mono ?_
  rintro e w' ⟨rfl, hu⟩
  exact ⟨rfl, lp_of_upd h hS hu (copyP_len i h.len) (copyP_big i h.big)⟩
theorem lp_take {w0 w : World} {X : Nat → Prop} {g : Nat} {ps : List Pk} (i : Int) (h : LvP w0 w X g ps) :
    Calls Try.prog 23 #[.pointer (some ⟨g, 0, none⟩), .int .i64 i] w fun e w' => ∃ A n c, e = .returned (.tuple #[.agg #[.int .i64 ((takeP ps i).2.getD ⟨0, 0, []⟩).src, .int .i64 ((takeP ps i).2.getD ⟨0, 0, []⟩).dst, .slice A n c], .int .i64 (if (takeP ps i).2.isSome then 0 else 60)]) ∧ PkAt w' (fun _ => True) ((takeP ps i).2.getD ⟨0, 0, []⟩) A n c ∧ LvPTo w0 X g (takeP ps i).1 w w' := by
  obtain ⟨S, v, hp, hS⟩ := h.bnd
  refine (take_any S g v ps i w hp h.len).mono ?_
  rintro e w' ⟨A, n, c, he, hx, hu⟩
  exact ⟨A, n, c, he, hx.mono (fun _ _ => trivial), lp_of_upd h hS hu (takeP_len i h.len) (takeP_big i h.big)⟩
theorem lp_len {w0 w : World} {X : Nat → Prop} {g : Nat} {ps : List Pk} (h : LvP w0 w X g ps) :
    Calls Try.prog 24 #[.pointer (some ⟨g, 0, none⟩)] w fun e w' => e = .returned (.int .i64 ps.length) ∧ w = w' := by
  obtain ⟨S, v, hp, hS⟩ := h.bnd
  exact len_any S g v ps w hp
theorem lp_all {w0 w : World} {X : Nat → Prop} {g : Nat} {ps : List Pk} (h : LvP w0 w X g ps) :
    Calls Try.prog 35 #[.pointer (some ⟨g, 0, none⟩)] w fun e w' => ∃ A c, e = .returned (.slice A ps.length c) ∧ Vec pkK 38 w' (fun k => w.heap.size ≤ k) (fun k => w.heap.size ≤ k) (.slice A ps.length c) ps ∧ Chg (fun _ => False) w w' := by
  obtain ⟨S, v, hp, hS⟩ := h.bnd
  refine (all_any S g v ps w hp h.len h.big).mono ?_
  rintro e w' ⟨v', rfl, hv, hc⟩
  obtain ⟨A, c, rfl⟩ := hv.form
  exact ⟨A, c, rfl, hv, hc⟩

/-- A packet of a literal. -/
theorem pk_new (W : World) (f d : Int) (l : List UInt8) (hf : (Lit.int .i64 f).wf = true) (hd : (Lit.int .i64 d).wf = true) (hl : l.length ≤ 1000) (cs : Array Value) (m : Nat × Nat) (hcs : cs.toList = u8s l) : PkAt (W.alloc (.cells cs 5 m)) (fun k => k = W.heap.size) ⟨f, d, l⟩ (some ⟨W.heap.size, 0, none⟩) l.length l.length :=
  ⟨hf, hd, Ty.At.of_bytes rfl (Nat.le_refl _) (by simp only [maxLen]; omega) (by simp) (by
    refine .inr ⟨_, rfl, rfl, fun j u hj => ?_⟩
    rw [add_at, Nat.zero_add, cellAt (blk_new W _)]
    rw [← hcs] at hj
    simpa using hj)⟩

set_option maxHeartbeats 2000000 in
theorem anchor_any (w : World) : Calls Try.prog 19 #[] w fun e w' => e = .returned (.bool true) ∧ Below w.heap.size w w' := by
  have kc := fun (w : World) (C : Array Value) (n c : Nat) => Lib.run_convert_bytes_const (P := Try.prog) w 22 5 C n c Try.underlying22 Try.underlying5
  go_enter Try.func19, Try.ntmps19
  go_wp2_with fail
  refine (lp_new w w (fun _ => False) (Below.refl _ _) (fun _ h => h.elim)).mono ?_
  rintro e w1 ⟨rfl, h1, _⟩
  have H1 := hid h1
  clear h1
  go_wp2_with fail
  refine (lp_send ⟨1, 0, [97]⟩ (H1.out.new ((Chg.refl _ w1).alloc _)) (pk_new w1 1 0 [97] rfl rfl (by simp) #[.int .u8 97] (1, 2) rfl)).mono ?_
  rintro e w2 ⟨rfl, h2, _⟩
  have H2 := hid h2
  clear h2
  go_wp2_with fail
  refine (lp_send ⟨2, 0, [98]⟩ (H2.out.new ((Chg.refl _ w2).alloc _)) (pk_new w2 2 0 [98] rfl rfl (by simp) #[.int .u8 98] (1, 2) rfl)).mono ?_
  rintro e w3 ⟨rfl, h3, _⟩
  have H3 := hid (show LvP w w3 (fun _ => False) w.heap.size [⟨1, 0, [97]⟩, ⟨2, 0, [98]⟩] from h3)
  clear h3
  go_wp2_with fail
  refine (lp_copy 0 H3.out).mono ?_
  rintro e w4 ⟨rfl, h4, _⟩
  rw [show copyP [⟨1, 0, [97]⟩, ⟨2, 0, [98]⟩] 0 = ([⟨1, 0, [97]⟩, ⟨2, 0, [98]⟩, ⟨1, 0, [97]⟩], 0) from rfl] at h4 ⊢
  have H4 := hid h4
  clear h4
  go_wp2_with fail
  refine (lp_take 1 H4.out).mono ?_
  rintro e w5 ⟨A, n, c, rfl, hx, h5, _⟩
  rw [show takeP [⟨1, 0, [97]⟩, ⟨2, 0, [98]⟩, ⟨1, 0, [97]⟩] 1 = ([⟨1, 0, [97]⟩, ⟨1, 0, [97]⟩], some ⟨2, 0, [98]⟩) from rfl] at h5 hx ⊢
  have H5 := hid h5
  clear h5 hx
  go_wp2_with fail
  refine (lp_len (H5.out.new ((Chg.refl _ w5).alloc _))).mono ?_
  rintro e w6 ⟨rfl, rfl⟩
  go_wp2_with fail
  refine (lp_all (H5.out.new ((Chg.refl _ w5).alloc _))).mono ?_
  rintro e w6 ⟨A6, c6, rfl, hv, hc⟩
  obtain ⟨g6, cs6, hA6, _, _, hK, hcell⟩ := hv.get (i := 1) (by decide) rfl
  obtain ⟨A7, n7, c7, rfl, _⟩ := pk_open hK
  subst hA6
  have x0 : w6.cell? ⟨g6, 3, none⟩ = some (.int .i64 1) := hcell 0 _ rfl
  have H6 := hid ((H5.out.new ((Chg.refl _ w5).alloc _)).new hc)
  clear hv hK hcell hc
  go_wp2_with fail
  go_ret
  exact ⟨rfl, H6.out.below⟩
end Go.Proofs.Ytmllakklhbmboaa.Po
