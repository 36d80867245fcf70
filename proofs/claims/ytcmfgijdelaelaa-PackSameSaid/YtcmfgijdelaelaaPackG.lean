
/- The contracts of the codec's message and record. -/

import Derived.Test.YtcmfgijdelaelaaPackLe

namespace Go.Proofs.Ytcmfgijdelaelaa.Pa

set_option linter.unusedVariables false

set_option linter.unusedSimpArgs false

open Go.RowKit Go.Proofs.Ytcmfgijdelaelaa.C

attribute [local go_sem] max2_int min2_int max_two min_two

structure Msg where
  kind : Int
  view : Int
  src : Int
  dst : Int
  op : Int
  commit : Int
  normal : Int
  log : List Entry
def Msg.nums (m : Msg) : List Int := [m.kind, m.view, m.src, m.dst, m.op, m.commit, m.normal]
structure Rec where
  kind : Int
  a : Int
  b : Int
  log : List Entry
def Rec.nums (m : Rec) : List Int := [m.kind, m.a, m.b]
def mkMsg : List Int → List Entry → Msg
  | [a, b, c, d, e, f, g], l => ⟨a, b, c, d, e, f, g, l⟩
  | _, l => ⟨0, 0, 0, 0, 0, 0, 0, l⟩
def mkRec : List Int → List Entry → Rec
  | [a, b, c], l => ⟨a, b, c, l⟩
  | _, l => ⟨0, 0, 0, l⟩

def msgB (m : Msg) : List UInt8 := m.nums.flatMap num ++ logB m.log
def rdMsg : List UInt8 → Option (Msg × List UInt8) := thenRd (rdList rdNum 7) (rdSeq 54 rdEntry) mkMsg
structure MsgOk (m : Msg) : Prop where
  nums : ∀ u ∈ m.nums, NumOk u
  log : ∀ e ∈ m.log, EntryOk e
  len : m.log.length ≤ 100
def msgCells (m : Msg) (A1 : Option Addr) (n1 c1 : Nat) : List Value := ints m.nums ++ [.slice A1 n1 c1]
theorem msgB_len {m : Msg} (h : MsgOk m) : (msgB m).length ≤ 12000000 := by
  have h1 := ents_len h.log m.log.length
  rw [List.take_length] at h1
  unfold msgB logB
  simp only [List.length_append, num_len]
  have h3 : (m.nums.flatMap num).length = 6 * 7 := by rw [flatMap_num_len]; rfl
  have h4 := h.len
  omega

set_option maxHeartbeats 4000000 in
set_option maxRecDepth 100000 in
theorem message_w {w : World} {S R : Nat → Prop} {g p tp : Nat} {v : Value} {x : List UInt8} {m : Msg} {A1 : Option Addr} {n1 c1 : Nat} (h : Wr w S g v x) (hp : w.heap[p]? = some (.cells (msgCells m A1 n1 c1).toArray tp (0, 0))) (hpS : ¬ S p)
    (he : Ty.At entryK w R A1 n1 c1 m.log) (hR : ∀ k, R k → ¬ S k) (hok : MsgOk m) (hx : x.length ≤ 300000000) :
    Calls Try.prog 44 #[.pointer (some ⟨g, 0, none⟩), .pointer (some ⟨p, 0, none⟩)] w fun e' w' => e' = .returned (.tuple #[]) ∧ WrTo S g (x ++ msgB m) w w' := by
  have HB := hid h.bound
  have HP := hid hp
  have HPL := hid (lt_of_blk hp)
  have HE := hid he.bound
  have HR := hid hR
  have HOK := hid hok
  have hnl : (m.nums.flatMap num).length = 6 * 7 := by rw [flatMap_num_len]; rfl
  have HNL := hid hnl
  clear h hp hok he hR hnl
  go_enter Try.func44, Try.ntmps44
  go_wp2_with fail
  refine wpB_start (fun _ : World => True) (by kernel_rfl) ?_
  have hHeld := trivial
  -- 0: t4 := move t0 : 73
  refine wpB_take (i := 0) (v := ?_) (get_of_drop rfl) (by kernel_rfl) (by kernel_rfl) (by kernel_rfl) (by kernel_rfl) (fun _ _ _ h => h) (Or.inl ⟨by rfl, ?_⟩) hHeld ?_
  rotate_left
  · (intro w hSw; (try dsimp only at hSw); go_simp <;> with_reducible rfl)
  try simp only [Act.put, List.setIfInBounds_toArray, List.set_cons_zero, List.set_cons_succ]
  -- 1: t5 := move t1 : 91
  refine wpB_take (i := 1) (v := ?_) (get_of_drop rfl) (by kernel_rfl) (by kernel_rfl) (by kernel_rfl) (by kernel_rfl) (fun _ _ _ h => h) (Or.inl ⟨by rfl, ?_⟩) hHeld ?_
  rotate_left
  · (intro w hSw; (try dsimp only at hSw); go_simp <;> with_reducible rfl)
  try simp only [Act.put, List.setIfInBounds_toArray, List.set_cons_zero, List.set_cons_succ]
  -- 2: t6 := nilCheck t5 : 0
  refine wpB_take (i := 2) (v := ?_) (get_of_drop rfl) (by kernel_rfl) (by kernel_rfl) (by kernel_rfl) (by kernel_rfl) (fun _ _ _ h => h) (Or.inl ⟨by rfl, ?_⟩) hHeld ?_
  rotate_left
  · (intro w hSw; (try dsimp only at hSw); go_simp <;> with_reducible rfl)
  try simp only [Act.put, List.setIfInBounds_toArray, List.set_cons_zero, List.set_cons_succ]
  -- 3: t7 := fieldAddr 43 t6 0 : 0
  refine wpB_take (i := 3) (v := ?_) (get_of_drop rfl) (by kernel_rfl) (by kernel_rfl) (by kernel_rfl) (by kernel_rfl) (fun _ _ _ h => h) (Or.inl ⟨by rfl, ?_⟩) hHeld ?_
  rotate_left
  · (intro w hSw; (try dsimp only at hSw); go_simp <;> with_reducible rfl)
  try simp only [Act.put, List.setIfInBounds_toArray, List.set_cons_zero, List.set_cons_succ]
  -- 4: t8 := move t1 : 91
  refine wpB_take (i := 4) (v := ?_) (get_of_drop rfl) (by kernel_rfl) (by kernel_rfl) (by kernel_rfl) (by kernel_rfl) (fun _ _ _ h => h) (Or.inl ⟨by rfl, ?_⟩) hHeld ?_
  rotate_left
  · (intro w hSw; (try dsimp only at hSw); go_simp <;> with_reducible rfl)
  try simp only [Act.put, List.setIfInBounds_toArray, List.set_cons_zero, List.set_cons_succ]
  -- 5: t9 := nilCheck t8 : 0
  refine wpB_take (i := 5) (v := ?_) (get_of_drop rfl) (by kernel_rfl) (by kernel_rfl) (by kernel_rfl) (by kernel_rfl) (fun _ _ _ h => h) (Or.inl ⟨by rfl, ?_⟩) hHeld ?_
  rotate_left
  · (intro w hSw; (try dsimp only at hSw); go_simp <;> with_reducible rfl)
  try simp only [Act.put, List.setIfInBounds_toArray, List.set_cons_zero, List.set_cons_succ]
  -- 6: t10 := fieldAddr 43 t9 1 : 0
  refine wpB_take (i := 6) (v := ?_) (get_of_drop rfl) (by kernel_rfl) (by kernel_rfl) (by kernel_rfl) (by kernel_rfl) (fun _ _ _ h => h) (Or.inl ⟨by rfl, ?_⟩) hHeld ?_
  rotate_left
  · (intro w hSw; (try dsimp only at hSw); go_simp <;> with_reducible rfl)
  try simp only [Act.put, List.setIfInBounds_toArray, List.set_cons_zero, List.set_cons_succ]
  -- 7: t11 := move t1 : 91
  refine wpB_take (i := 7) (v := ?_) (get_of_drop rfl) (by kernel_rfl) (by kernel_rfl) (by kernel_rfl) (by kernel_rfl) (fun _ _ _ h => h) (Or.inl ⟨by rfl, ?_⟩) hHeld ?_
  rotate_left
  · (intro w hSw; (try dsimp only at hSw); go_simp <;> with_reducible rfl)
  try simp only [Act.put, List.setIfInBounds_toArray, List.set_cons_zero, List.set_cons_succ]
  -- 8: t12 := nilCheck t11 : 0
  refine wpB_take (i := 8) (v := ?_) (get_of_drop rfl) (by kernel_rfl) (by kernel_rfl) (by kernel_rfl) (by kernel_rfl) (fun _ _ _ h => h) (Or.inl ⟨by rfl, ?_⟩) hHeld ?_
  rotate_left
  · (intro w hSw; (try dsimp only at hSw); go_simp <;> with_reducible rfl)
  try simp only [Act.put, List.setIfInBounds_toArray, List.set_cons_zero, List.set_cons_succ]
  -- 9: t13 := fieldAddr 43 t12 2 : 0
  refine wpB_take (i := 9) (v := ?_) (get_of_drop rfl) (by kernel_rfl) (by kernel_rfl) (by kernel_rfl) (by kernel_rfl) (fun _ _ _ h => h) (Or.inl ⟨by rfl, ?_⟩) hHeld ?_
  rotate_left
  · (intro w hSw; (try dsimp only at hSw); go_simp <;> with_reducible rfl)
  try simp only [Act.put, List.setIfInBounds_toArray, List.set_cons_zero, List.set_cons_succ]
  -- 10: t14 := move t1 : 91
  refine wpB_take (i := 10) (v := ?_) (get_of_drop rfl) (by kernel_rfl) (by kernel_rfl) (by kernel_rfl) (by kernel_rfl) (fun _ _ _ h => h) (Or.inl ⟨by rfl, ?_⟩) hHeld ?_
  rotate_left
  · (intro w hSw; (try dsimp only at hSw); go_simp <;> with_reducible rfl)
  try simp only [Act.put, List.setIfInBounds_toArray, List.set_cons_zero, List.set_cons_succ]
  -- 11: t15 := nilCheck t14 : 0
  refine wpB_take (i := 11) (v := ?_) (get_of_drop rfl) (by kernel_rfl) (by kernel_rfl) (by kernel_rfl) (by kernel_rfl) (fun _ _ _ h => h) (Or.inl ⟨by rfl, ?_⟩) hHeld ?_
  rotate_left
  · (intro w hSw; (try dsimp only at hSw); go_simp <;> with_reducible rfl)
  try simp only [Act.put, List.setIfInBounds_toArray, List.set_cons_zero, List.set_cons_succ]
  -- 12: t16 := fieldAddr 43 t15 3 : 0
  refine wpB_take (i := 12) (v := ?_) (get_of_drop rfl) (by kernel_rfl) (by kernel_rfl) (by kernel_rfl) (by kernel_rfl) (fun _ _ _ h => h) (Or.inl ⟨by rfl, ?_⟩) hHeld ?_
  rotate_left
  · (intro w hSw; (try dsimp only at hSw); go_simp <;> with_reducible rfl)
  try simp only [Act.put, List.setIfInBounds_toArray, List.set_cons_zero, List.set_cons_succ]
  -- 13: t17 := move t1 : 91
  refine wpB_take (i := 13) (v := ?_) (get_of_drop rfl) (by kernel_rfl) (by kernel_rfl) (by kernel_rfl) (by kernel_rfl) (fun _ _ _ h => h) (Or.inl ⟨by rfl, ?_⟩) hHeld ?_
  rotate_left
  · (intro w hSw; (try dsimp only at hSw); go_simp <;> with_reducible rfl)
  try simp only [Act.put, List.setIfInBounds_toArray, List.set_cons_zero, List.set_cons_succ]
  -- 14: t18 := nilCheck t17 : 0
  refine wpB_take (i := 14) (v := ?_) (get_of_drop rfl) (by kernel_rfl) (by kernel_rfl) (by kernel_rfl) (by kernel_rfl) (fun _ _ _ h => h) (Or.inl ⟨by rfl, ?_⟩) hHeld ?_
  rotate_left
  · (intro w hSw; (try dsimp only at hSw); go_simp <;> with_reducible rfl)
  try simp only [Act.put, List.setIfInBounds_toArray, List.set_cons_zero, List.set_cons_succ]
  -- 15: t19 := fieldAddr 43 t18 4 : 0
  refine wpB_take (i := 15) (v := ?_) (get_of_drop rfl) (by kernel_rfl) (by kernel_rfl) (by kernel_rfl) (by kernel_rfl) (fun _ _ _ h => h) (Or.inl ⟨by rfl, ?_⟩) hHeld ?_
  rotate_left
  · (intro w hSw; (try dsimp only at hSw); go_simp <;> with_reducible rfl)
  try simp only [Act.put, List.setIfInBounds_toArray, List.set_cons_zero, List.set_cons_succ]
  -- 16: t20 := move t1 : 91
  refine wpB_take (i := 16) (v := ?_) (get_of_drop rfl) (by kernel_rfl) (by kernel_rfl) (by kernel_rfl) (by kernel_rfl) (fun _ _ _ h => h) (Or.inl ⟨by rfl, ?_⟩) hHeld ?_
  rotate_left
  · (intro w hSw; (try dsimp only at hSw); go_simp <;> with_reducible rfl)
  try simp only [Act.put, List.setIfInBounds_toArray, List.set_cons_zero, List.set_cons_succ]
  -- 17: t21 := nilCheck t20 : 0
  refine wpB_take (i := 17) (v := ?_) (get_of_drop rfl) (by kernel_rfl) (by kernel_rfl) (by kernel_rfl) (by kernel_rfl) (fun _ _ _ h => h) (Or.inl ⟨by rfl, ?_⟩) hHeld ?_
  rotate_left
  · (intro w hSw; (try dsimp only at hSw); go_simp <;> with_reducible rfl)
  try simp only [Act.put, List.setIfInBounds_toArray, List.set_cons_zero, List.set_cons_succ]
  -- 18: t22 := fieldAddr 43 t21 5 : 0
  refine wpB_take (i := 18) (v := ?_) (get_of_drop rfl) (by kernel_rfl) (by kernel_rfl) (by kernel_rfl) (by kernel_rfl) (fun _ _ _ h => h) (Or.inl ⟨by rfl, ?_⟩) hHeld ?_
  rotate_left
  · (intro w hSw; (try dsimp only at hSw); go_simp <;> with_reducible rfl)
  try simp only [Act.put, List.setIfInBounds_toArray, List.set_cons_zero, List.set_cons_succ]
  -- 19: t23 := move t1 : 91
  refine wpB_take (i := 19) (v := ?_) (get_of_drop rfl) (by kernel_rfl) (by kernel_rfl) (by kernel_rfl) (by kernel_rfl) (fun _ _ _ h => h) (Or.inl ⟨by rfl, ?_⟩) hHeld ?_
  rotate_left
  · (intro w hSw; (try dsimp only at hSw); go_simp <;> with_reducible rfl)
  try simp only [Act.put, List.setIfInBounds_toArray, List.set_cons_zero, List.set_cons_succ]
  -- 20: t24 := nilCheck t23 : 0
  refine wpB_take (i := 20) (v := ?_) (get_of_drop rfl) (by kernel_rfl) (by kernel_rfl) (by kernel_rfl) (by kernel_rfl) (fun _ _ _ h => h) (Or.inl ⟨by rfl, ?_⟩) hHeld ?_
  rotate_left
  · (intro w hSw; (try dsimp only at hSw); go_simp <;> with_reducible rfl)
  try simp only [Act.put, List.setIfInBounds_toArray, List.set_cons_zero, List.set_cons_succ]
  -- 21: t25 := fieldAddr 43 t24 6 : 0
  refine wpB_take (i := 21) (v := ?_) (get_of_drop rfl) (by kernel_rfl) (by kernel_rfl) (by kernel_rfl) (by kernel_rfl) (fun _ _ _ h => h) (Or.inl ⟨by rfl, ?_⟩) hHeld ?_
  rotate_left
  · (intro w hSw; (try dsimp only at hSw); go_simp <;> with_reducible rfl)
  try simp only [Act.put, List.setIfInBounds_toArray, List.set_cons_zero, List.set_cons_succ]
  -- 22: t26 := buildSlice 115 7 [⟨0, t7⟩, ⟨1, t10⟩, ⟨2, t13⟩, ⟨3, t16⟩, ⟨4, t19⟩, ⟨5, t22⟩, ⟨6, t25⟩] : 115
  refine wpB_act (i := 22) (by kernel_rfl) (get_of_drop rfl) (fun K hK => ?_)
  go_simp
  refine hK.out _ _ ?_ (fun hHeld2 => ?_)
  · exact trivial
  clear hHeld hK K
  have hHeld := hHeld2
  clear hHeld2
  try simp only [Act.put, List.setIfInBounds_toArray, List.set_cons_zero, List.set_cons_succ]
  -- 23: t27 := CALL fn55(t4, t26) : 0
  refine wpB_act (i := 23) (by kernel_rfl) (get_of_drop rfl) (fun K hK => ?_)
  go_simp
  have CC := hid (show Chg (fun _ => False) w (w.alloc (.cells (ptrs p 7).toArray 102)).drew from ((Chg.refl _ w).alloc _).drew)
  refine (num_w (S := fun k => S k ∧ k < w.heap.size) (vs := m.nums) (p := p) (R := fun k => k = w.heap.size) (HB.out.chg CC.out (fun _ _ h => h)) (lit_sees w (ptrs p 7).toArray 102) (fun k hk hs => by have := hs.2; omega) (fun i u hi => by
    rw [cellAt (CC.out.blk HP.out (fun h => h))]
    exact ints_at hi _) (fun hs => hpS hs.1) (fun u hu => HOK.out.nums u hu) (by omega) (by show 7 ≤ 7; omega)).mono ?_
  rintro e' w1 ⟨rfl, h1⟩
  have HT := hid (WrTo.pre (S := fun k => S k ∧ k < w.heap.size) CC.out h1 (fun k hk => .inl hk))
  clear h1
  refine hK.out _ _ ?_ (fun hHeld2 => ?_)
  · exact trivial
  clear hHeld hK K
  have hHeld := hHeld2
  clear hHeld2
  try simp only [Act.put, List.setIfInBounds_toArray, List.set_cons_zero, List.set_cons_succ]
  refine wpB_done (by kernel_rfl) ?_ _
  clear hHeld
  obtain ⟨v1, hv1, hc1⟩ := HT.out
  have H1 := hid hv1.bound
  have HC1 := hid hc1
  clear hv1 hc1
  have HP1 := hid (HC1.out.blk HP.out (fun h => hpS h.1))
  have HE1 := hid (HE.out.chg HC1.out (fun k hk h => HR.out k hk.1 h.1))
  have HN1 := hid HE.out.1
  go_wp2_with fail
  refine (ents_w (o := 7) H1.out (by rw [cellAt HP1.out]; rfl) (fun hs => by have := HPL.out; rcases hs.1 with h | h; exact hpS h.1; omega) HE1.out (fun k hk hs => by have := hk.2; rcases hs.1 with h | h; exact HR.out k hk.1 h.1; omega) HOK.out.log (by rw [HN1.out]; exact HOK.out.len) (by rw [List.length_append, HNL.out]; omega) 54).mono ?_
  rintro e' w2 ⟨rfl, h2⟩
  have HF := hid (WrTo.pre (S := S) (Chg.refl _ _) (HT.out.trans (WrTo.pre (Chg.refl _ _) h2 (fun k hk => .inl hk.1))) (fun k hk => .inl hk.1))
  clear h2
  go_wp2_with fail
  go_end0
  refine ⟨rfl, ?_⟩
  have q := HF.out
  rw [HN1.out] at q
  unfold msgB logB
  simpa only [List.append_assoc] using q

/-- It was read into a block. -/
def MsgTo (w : World) (B g : Nat) (A : Option Addr) (n c : Nat) (b : List UInt8) (at_ : Nat) (bad : Bool) (p tp : Nat) (w' : World) : Prop :=
  ∃ (m : Msg) (A1 : Option Addr) (n1 c1 : Nat), (∀ u ∈ m.nums, (Lit.int .i64 u).wf = true) ∧ Ty.At entryK w' (fun k => w.heap.size ≤ k) A1 n1 c1 m.log ∧ w'.heap[p]? = some (.cells (msgCells m A1 n1 c1).toArray tp (0, 0)) ∧ Chg (fun j => j = g ∨ j = p) w w' ∧ RdTo B g A n c b at_ bad rdMsg w' m ∧ m.log.length ≤ n

set_option maxHeartbeats 4000000 in
set_option maxRecDepth 100000 in
theorem message_r {w : World} {B g p tp : Nat} {A : Option Addr} {n c : Nat} {b : List UInt8} {at_ : Nat} {bad : Bool} {vs : List Int} (h : Rd w B g A n c b at_ bad) (hp : w.heap[p]? = some (.cells (ints vs ++ [Value.slice none 0 0]).toArray tp (0, 0))) (hvs : vs.length = 7) (hpB : B ≤ p) (hpg : p ≠ g) (hwf : ∀ u ∈ vs, (Lit.int .i64 u).wf = true) (hn : n ≤ 1000000) :
    Calls Try.prog 44 #[.pointer (some ⟨g, 0, none⟩), .pointer (some ⟨p, 0, none⟩)] w fun e' w' => e' = .returned (.tuple #[]) ∧ MsgTo w B g A n c b at_ bad p tp w' := by
  have H := hid h
  have HP := hid hp
  have HPL := hid (lt_of_blk hp)
  have HGL := hid h.lt
  have HWF := hid hwf
  clear h hp hwf
  go_enter Try.func44, Try.ntmps44
  go_wp2_with fail
  refine wpB_start (fun _ : World => True) (by kernel_rfl) ?_
  have hHeld := trivial
  -- 0: t4 := move t0 : 73
  refine wpB_take (i := 0) (v := ?_) (get_of_drop rfl) (by kernel_rfl) (by kernel_rfl) (by kernel_rfl) (by kernel_rfl) (fun _ _ _ h => h) (Or.inl ⟨by rfl, ?_⟩) hHeld ?_
  rotate_left
  · (intro w hSw; (try dsimp only at hSw); go_simp <;> with_reducible rfl)
  try simp only [Act.put, List.setIfInBounds_toArray, List.set_cons_zero, List.set_cons_succ]
  -- 1: t5 := move t1 : 91
  refine wpB_take (i := 1) (v := ?_) (get_of_drop rfl) (by kernel_rfl) (by kernel_rfl) (by kernel_rfl) (by kernel_rfl) (fun _ _ _ h => h) (Or.inl ⟨by rfl, ?_⟩) hHeld ?_
  rotate_left
  · (intro w hSw; (try dsimp only at hSw); go_simp <;> with_reducible rfl)
  try simp only [Act.put, List.setIfInBounds_toArray, List.set_cons_zero, List.set_cons_succ]
  -- 2: t6 := nilCheck t5 : 0
  refine wpB_take (i := 2) (v := ?_) (get_of_drop rfl) (by kernel_rfl) (by kernel_rfl) (by kernel_rfl) (by kernel_rfl) (fun _ _ _ h => h) (Or.inl ⟨by rfl, ?_⟩) hHeld ?_
  rotate_left
  · (intro w hSw; (try dsimp only at hSw); go_simp <;> with_reducible rfl)
  try simp only [Act.put, List.setIfInBounds_toArray, List.set_cons_zero, List.set_cons_succ]
  -- 3: t7 := fieldAddr 43 t6 0 : 0
  refine wpB_take (i := 3) (v := ?_) (get_of_drop rfl) (by kernel_rfl) (by kernel_rfl) (by kernel_rfl) (by kernel_rfl) (fun _ _ _ h => h) (Or.inl ⟨by rfl, ?_⟩) hHeld ?_
  rotate_left
  · (intro w hSw; (try dsimp only at hSw); go_simp <;> with_reducible rfl)
  try simp only [Act.put, List.setIfInBounds_toArray, List.set_cons_zero, List.set_cons_succ]
  -- 4: t8 := move t1 : 91
  refine wpB_take (i := 4) (v := ?_) (get_of_drop rfl) (by kernel_rfl) (by kernel_rfl) (by kernel_rfl) (by kernel_rfl) (fun _ _ _ h => h) (Or.inl ⟨by rfl, ?_⟩) hHeld ?_
  rotate_left
  · (intro w hSw; (try dsimp only at hSw); go_simp <;> with_reducible rfl)
  try simp only [Act.put, List.setIfInBounds_toArray, List.set_cons_zero, List.set_cons_succ]
  -- 5: t9 := nilCheck t8 : 0
  refine wpB_take (i := 5) (v := ?_) (get_of_drop rfl) (by kernel_rfl) (by kernel_rfl) (by kernel_rfl) (by kernel_rfl) (fun _ _ _ h => h) (Or.inl ⟨by rfl, ?_⟩) hHeld ?_
  rotate_left
  · (intro w hSw; (try dsimp only at hSw); go_simp <;> with_reducible rfl)
  try simp only [Act.put, List.setIfInBounds_toArray, List.set_cons_zero, List.set_cons_succ]
  -- 6: t10 := fieldAddr 43 t9 1 : 0
  refine wpB_take (i := 6) (v := ?_) (get_of_drop rfl) (by kernel_rfl) (by kernel_rfl) (by kernel_rfl) (by kernel_rfl) (fun _ _ _ h => h) (Or.inl ⟨by rfl, ?_⟩) hHeld ?_
  rotate_left
  · (intro w hSw; (try dsimp only at hSw); go_simp <;> with_reducible rfl)
  try simp only [Act.put, List.setIfInBounds_toArray, List.set_cons_zero, List.set_cons_succ]
  -- 7: t11 := move t1 : 91
  refine wpB_take (i := 7) (v := ?_) (get_of_drop rfl) (by kernel_rfl) (by kernel_rfl) (by kernel_rfl) (by kernel_rfl) (fun _ _ _ h => h) (Or.inl ⟨by rfl, ?_⟩) hHeld ?_
  rotate_left
  · (intro w hSw; (try dsimp only at hSw); go_simp <;> with_reducible rfl)
  try simp only [Act.put, List.setIfInBounds_toArray, List.set_cons_zero, List.set_cons_succ]
  -- 8: t12 := nilCheck t11 : 0
  refine wpB_take (i := 8) (v := ?_) (get_of_drop rfl) (by kernel_rfl) (by kernel_rfl) (by kernel_rfl) (by kernel_rfl) (fun _ _ _ h => h) (Or.inl ⟨by rfl, ?_⟩) hHeld ?_
  rotate_left
  · (intro w hSw; (try dsimp only at hSw); go_simp <;> with_reducible rfl)
  try simp only [Act.put, List.setIfInBounds_toArray, List.set_cons_zero, List.set_cons_succ]
  -- 9: t13 := fieldAddr 43 t12 2 : 0
  refine wpB_take (i := 9) (v := ?_) (get_of_drop rfl) (by kernel_rfl) (by kernel_rfl) (by kernel_rfl) (by kernel_rfl) (fun _ _ _ h => h) (Or.inl ⟨by rfl, ?_⟩) hHeld ?_
  rotate_left
  · (intro w hSw; (try dsimp only at hSw); go_simp <;> with_reducible rfl)
  try simp only [Act.put, List.setIfInBounds_toArray, List.set_cons_zero, List.set_cons_succ]
  -- 10: t14 := move t1 : 91
  refine wpB_take (i := 10) (v := ?_) (get_of_drop rfl) (by kernel_rfl) (by kernel_rfl) (by kernel_rfl) (by kernel_rfl) (fun _ _ _ h => h) (Or.inl ⟨by rfl, ?_⟩) hHeld ?_
  rotate_left
  · (intro w hSw; (try dsimp only at hSw); go_simp <;> with_reducible rfl)
  try simp only [Act.put, List.setIfInBounds_toArray, List.set_cons_zero, List.set_cons_succ]
  -- 11: t15 := nilCheck t14 : 0
  refine wpB_take (i := 11) (v := ?_) (get_of_drop rfl) (by kernel_rfl) (by kernel_rfl) (by kernel_rfl) (by kernel_rfl) (fun _ _ _ h => h) (Or.inl ⟨by rfl, ?_⟩) hHeld ?_
  rotate_left
  · (intro w hSw; (try dsimp only at hSw); go_simp <;> with_reducible rfl)
  try simp only [Act.put, List.setIfInBounds_toArray, List.set_cons_zero, List.set_cons_succ]
  -- 12: t16 := fieldAddr 43 t15 3 : 0
  refine wpB_take (i := 12) (v := ?_) (get_of_drop rfl) (by kernel_rfl) (by kernel_rfl) (by kernel_rfl) (by kernel_rfl) (fun _ _ _ h => h) (Or.inl ⟨by rfl, ?_⟩) hHeld ?_
  rotate_left
  · (intro w hSw; (try dsimp only at hSw); go_simp <;> with_reducible rfl)
  try simp only [Act.put, List.setIfInBounds_toArray, List.set_cons_zero, List.set_cons_succ]
  -- 13: t17 := move t1 : 91
  refine wpB_take (i := 13) (v := ?_) (get_of_drop rfl) (by kernel_rfl) (by kernel_rfl) (by kernel_rfl) (by kernel_rfl) (fun _ _ _ h => h) (Or.inl ⟨by rfl, ?_⟩) hHeld ?_
  rotate_left
  · (intro w hSw; (try dsimp only at hSw); go_simp <;> with_reducible rfl)
  try simp only [Act.put, List.setIfInBounds_toArray, List.set_cons_zero, List.set_cons_succ]
  -- 14: t18 := nilCheck t17 : 0
  refine wpB_take (i := 14) (v := ?_) (get_of_drop rfl) (by kernel_rfl) (by kernel_rfl) (by kernel_rfl) (by kernel_rfl) (fun _ _ _ h => h) (Or.inl ⟨by rfl, ?_⟩) hHeld ?_
  rotate_left
  · (intro w hSw; (try dsimp only at hSw); go_simp <;> with_reducible rfl)
  try simp only [Act.put, List.setIfInBounds_toArray, List.set_cons_zero, List.set_cons_succ]
  -- 15: t19 := fieldAddr 43 t18 4 : 0
  refine wpB_take (i := 15) (v := ?_) (get_of_drop rfl) (by kernel_rfl) (by kernel_rfl) (by kernel_rfl) (by kernel_rfl) (fun _ _ _ h => h) (Or.inl ⟨by rfl, ?_⟩) hHeld ?_
  rotate_left
  · (intro w hSw; (try dsimp only at hSw); go_simp <;> with_reducible rfl)
  try simp only [Act.put, List.setIfInBounds_toArray, List.set_cons_zero, List.set_cons_succ]
  -- 16: t20 := move t1 : 91
  refine wpB_take (i := 16) (v := ?_) (get_of_drop rfl) (by kernel_rfl) (by kernel_rfl) (by kernel_rfl) (by kernel_rfl) (fun _ _ _ h => h) (Or.inl ⟨by rfl, ?_⟩) hHeld ?_
  rotate_left
  · (intro w hSw; (try dsimp only at hSw); go_simp <;> with_reducible rfl)
  try simp only [Act.put, List.setIfInBounds_toArray, List.set_cons_zero, List.set_cons_succ]
  -- 17: t21 := nilCheck t20 : 0
  refine wpB_take (i := 17) (v := ?_) (get_of_drop rfl) (by kernel_rfl) (by kernel_rfl) (by kernel_rfl) (by kernel_rfl) (fun _ _ _ h => h) (Or.inl ⟨by rfl, ?_⟩) hHeld ?_
  rotate_left
  · (intro w hSw; (try dsimp only at hSw); go_simp <;> with_reducible rfl)
  try simp only [Act.put, List.setIfInBounds_toArray, List.set_cons_zero, List.set_cons_succ]
  -- 18: t22 := fieldAddr 43 t21 5 : 0
  refine wpB_take (i := 18) (v := ?_) (get_of_drop rfl) (by kernel_rfl) (by kernel_rfl) (by kernel_rfl) (by kernel_rfl) (fun _ _ _ h => h) (Or.inl ⟨by rfl, ?_⟩) hHeld ?_
  rotate_left
  · (intro w hSw; (try dsimp only at hSw); go_simp <;> with_reducible rfl)
  try simp only [Act.put, List.setIfInBounds_toArray, List.set_cons_zero, List.set_cons_succ]
  -- 19: t23 := move t1 : 91
  refine wpB_take (i := 19) (v := ?_) (get_of_drop rfl) (by kernel_rfl) (by kernel_rfl) (by kernel_rfl) (by kernel_rfl) (fun _ _ _ h => h) (Or.inl ⟨by rfl, ?_⟩) hHeld ?_
  rotate_left
  · (intro w hSw; (try dsimp only at hSw); go_simp <;> with_reducible rfl)
  try simp only [Act.put, List.setIfInBounds_toArray, List.set_cons_zero, List.set_cons_succ]
  -- 20: t24 := nilCheck t23 : 0
  refine wpB_take (i := 20) (v := ?_) (get_of_drop rfl) (by kernel_rfl) (by kernel_rfl) (by kernel_rfl) (by kernel_rfl) (fun _ _ _ h => h) (Or.inl ⟨by rfl, ?_⟩) hHeld ?_
  rotate_left
  · (intro w hSw; (try dsimp only at hSw); go_simp <;> with_reducible rfl)
  try simp only [Act.put, List.setIfInBounds_toArray, List.set_cons_zero, List.set_cons_succ]
  -- 21: t25 := fieldAddr 43 t24 6 : 0
  refine wpB_take (i := 21) (v := ?_) (get_of_drop rfl) (by kernel_rfl) (by kernel_rfl) (by kernel_rfl) (by kernel_rfl) (fun _ _ _ h => h) (Or.inl ⟨by rfl, ?_⟩) hHeld ?_
  rotate_left
  · (intro w hSw; (try dsimp only at hSw); go_simp <;> with_reducible rfl)
  try simp only [Act.put, List.setIfInBounds_toArray, List.set_cons_zero, List.set_cons_succ]
  -- 22: t26 := buildSlice 115 7 [⟨0, t7⟩, ⟨1, t10⟩, ⟨2, t13⟩, ⟨3, t16⟩, ⟨4, t19⟩, ⟨5, t22⟩, ⟨6, t25⟩] : 115
  refine wpB_act (i := 22) (by kernel_rfl) (get_of_drop rfl) (fun K hK => ?_)
  go_simp
  refine hK.out _ _ ?_ (fun hHeld2 => ?_)
  · exact trivial
  clear hHeld hK K
  have hHeld := hHeld2
  clear hHeld2
  try simp only [Act.put, List.setIfInBounds_toArray, List.set_cons_zero, List.set_cons_succ]
  -- 23: t27 := CALL fn55(t4, t26) : 0
  refine wpB_act (i := 23) (by kernel_rfl) (get_of_drop rfl) (fun K hK => ?_)
  go_simp
  have CC := hid (show Chg (fun _ => False) w (w.alloc (.cells (ptrs p 7).toArray 102)).drew from ((Chg.refl _ w).alloc _).drew)
  have hnum := num_r (vs := vs) (r := [Value.slice none 0 0]) (p := p) (tp := tp) (R := fun k => k = w.heap.size) (cl := 7) (H.out.chg CC.out (fun _ h => h.elim) (fun h => h)) (by rw [hvs]; exact lit_sees w (ptrs p 7).toArray 102) (fun k hk => by have := HPL.out; have := HGL.out; omega) (CC.out.blk HP.out (fun h => h)) hpB hpg HWF.out (by omega) (by omega)
  rw [hvs] at hnum
  refine hnum.mono ?_
  rintro e' w1 ⟨rfl, us, hus, hw, hblk, hchg, at1, bad1, hrd, heq⟩
  have HT := hid (And.intro hus (And.intro hw (And.intro hblk (And.intro ((CC.out.mono (S' := fun j => j = g ∨ j = p) (fun _ h _ => h.elim)).trans hchg (fun _ h _ => h)) (And.intro hrd heq)))))
  clear hus hw hblk hchg hrd heq
  refine hK.out _ _ ?_ (fun hHeld2 => ?_)
  · exact trivial
  clear hHeld hK K
  have hHeld := hHeld2
  clear hHeld2
  try simp only [Act.put, List.setIfInBounds_toArray, List.set_cons_zero, List.set_cons_succ]
  refine wpB_done (by kernel_rfl) ?_ _
  clear hHeld hnum
  obtain ⟨q1, q2, q3, q4, q5, q6⟩ := HT.out
  have Q1 := hid (show us.length = 7 from q1)
  have Q3 := hid q3
  have Q5 := hid q5
  clear q1 q2 q3 q4 q5 q6
  go_wp2_with fail
  refine (ents_r (o := 7) (tp := tp) Q5.out Q3.out (by simp [Q1.out]) hpB hpg hn (L := 54) (by omega) (by omega)).mono ?_
  rintro e' w2 ⟨rfl, xs, A1, c1, hxl, hblk, hvec, hchg, hrd⟩
  have HT2 := hid (And.intro hblk (And.intro hvec (And.intro hchg (And.intro hrd hxl))))
  clear hblk hvec hchg hrd
  go_wp2_with fail
  go_end0
  obtain ⟨u0, u1, u2, u3, u4, u5, u6, hul⟩ : ∃ u0 u1 u2 u3 u4 u5 u6, us = [u0, u1, u2, u3, u4, u5, u6] := by
    match us, Q1.out with
    | [u0, u1, u2, u3, u4, u5, u6], _ => exact ⟨u0, u1, u2, u3, u4, u5, u6, rfl⟩
  subst hul
  obtain ⟨_, w1f, _, ch1, _, eq1⟩ := HT.out
  obtain ⟨b2, v2, ch2, ⟨at2, bad2, rd2, eq2⟩, hl2⟩ := HT2.out
  have hwl : w.heap.size ≤ w1.heap.size := ch1.size
  refine ⟨rfl, mkMsg [u0, u1, u2, u3, u4, u5, u6] xs, A1, xs.length, c1, w1f, v2.at.mono (fun k hk => by rcases hk with hk | hk <;> omega), b2, ch1.trans ch2 (fun _ h _ => h), ⟨at2, bad2, rd2, thenRd_eq _ eq1 eq2⟩, hl2⟩

def recB (m : Rec) : List UInt8 := m.nums.flatMap num ++ logB m.log
def rdRec : List UInt8 → Option (Rec × List UInt8) := thenRd (rdList rdNum 3) (rdSeq 54 rdEntry) mkRec
structure RecOk (m : Rec) : Prop where
  nums : ∀ u ∈ m.nums, NumOk u
  log : ∀ e ∈ m.log, EntryOk e
  len : m.log.length ≤ 100
def recCells (m : Rec) (A1 : Option Addr) (n1 c1 : Nat) : List Value := ints m.nums ++ [.slice A1 n1 c1]
theorem recB_len {m : Rec} (h : RecOk m) : (recB m).length ≤ 12000000 := by
  have h1 := ents_len h.log m.log.length
  rw [List.take_length] at h1
  unfold recB logB
  simp only [List.length_append, num_len]
  have h3 : (m.nums.flatMap num).length = 6 * 3 := by rw [flatMap_num_len]; rfl
  have h4 := h.len
  omega

set_option maxHeartbeats 4000000 in
set_option maxRecDepth 100000 in
theorem record_w {w : World} {S R : Nat → Prop} {g p tp : Nat} {v : Value} {x : List UInt8} {m : Rec} {A1 : Option Addr} {n1 c1 : Nat} (h : Wr w S g v x) (hp : w.heap[p]? = some (.cells (recCells m A1 n1 c1).toArray tp (0, 0))) (hpS : ¬ S p)
    (he : Ty.At entryK w R A1 n1 c1 m.log) (hR : ∀ k, R k → ¬ S k) (hok : RecOk m) (hx : x.length ≤ 300000000) :
    Calls Try.prog 33 #[.pointer (some ⟨g, 0, none⟩), .pointer (some ⟨p, 0, none⟩)] w fun e' w' => e' = .returned (.tuple #[]) ∧ WrTo S g (x ++ recB m) w w' := by
  have HB := hid h.bound
  have HP := hid hp
  have HPL := hid (lt_of_blk hp)
  have HE := hid he.bound
  have HR := hid hR
  have HOK := hid hok
  have hnl : (m.nums.flatMap num).length = 6 * 3 := by rw [flatMap_num_len]; rfl
  have HNL := hid hnl
  clear h hp hok he hR hnl
  go_enter Try.func33, Try.ntmps33
  go_wp2_with fail
  refine wpB_start (fun _ : World => True) (by kernel_rfl) ?_
  have hHeld := trivial
  -- 0: t4 := move t0 : 73
  refine wpB_take (i := 0) (v := ?_) (get_of_drop rfl) (by kernel_rfl) (by kernel_rfl) (by kernel_rfl) (by kernel_rfl) (fun _ _ _ h => h) (Or.inl ⟨by rfl, ?_⟩) hHeld ?_
  rotate_left
  · (intro w hSw; (try dsimp only at hSw); go_simp <;> with_reducible rfl)
  try simp only [Act.put, List.setIfInBounds_toArray, List.set_cons_zero, List.set_cons_succ]
  -- 1: t5 := move t1 : 77
  refine wpB_take (i := 1) (v := ?_) (get_of_drop rfl) (by kernel_rfl) (by kernel_rfl) (by kernel_rfl) (by kernel_rfl) (fun _ _ _ h => h) (Or.inl ⟨by rfl, ?_⟩) hHeld ?_
  rotate_left
  · (intro w hSw; (try dsimp only at hSw); go_simp <;> with_reducible rfl)
  try simp only [Act.put, List.setIfInBounds_toArray, List.set_cons_zero, List.set_cons_succ]
  -- 2: t6 := nilCheck t5 : 0
  refine wpB_take (i := 2) (v := ?_) (get_of_drop rfl) (by kernel_rfl) (by kernel_rfl) (by kernel_rfl) (by kernel_rfl) (fun _ _ _ h => h) (Or.inl ⟨by rfl, ?_⟩) hHeld ?_
  rotate_left
  · (intro w hSw; (try dsimp only at hSw); go_simp <;> with_reducible rfl)
  try simp only [Act.put, List.setIfInBounds_toArray, List.set_cons_zero, List.set_cons_succ]
  -- 3: t7 := fieldAddr 24 t6 0 : 0
  refine wpB_take (i := 3) (v := ?_) (get_of_drop rfl) (by kernel_rfl) (by kernel_rfl) (by kernel_rfl) (by kernel_rfl) (fun _ _ _ h => h) (Or.inl ⟨by rfl, ?_⟩) hHeld ?_
  rotate_left
  · (intro w hSw; (try dsimp only at hSw); go_simp <;> with_reducible rfl)
  try simp only [Act.put, List.setIfInBounds_toArray, List.set_cons_zero, List.set_cons_succ]
  -- 4: t8 := move t1 : 77
  refine wpB_take (i := 4) (v := ?_) (get_of_drop rfl) (by kernel_rfl) (by kernel_rfl) (by kernel_rfl) (by kernel_rfl) (fun _ _ _ h => h) (Or.inl ⟨by rfl, ?_⟩) hHeld ?_
  rotate_left
  · (intro w hSw; (try dsimp only at hSw); go_simp <;> with_reducible rfl)
  try simp only [Act.put, List.setIfInBounds_toArray, List.set_cons_zero, List.set_cons_succ]
  -- 5: t9 := nilCheck t8 : 0
  refine wpB_take (i := 5) (v := ?_) (get_of_drop rfl) (by kernel_rfl) (by kernel_rfl) (by kernel_rfl) (by kernel_rfl) (fun _ _ _ h => h) (Or.inl ⟨by rfl, ?_⟩) hHeld ?_
  rotate_left
  · (intro w hSw; (try dsimp only at hSw); go_simp <;> with_reducible rfl)
  try simp only [Act.put, List.setIfInBounds_toArray, List.set_cons_zero, List.set_cons_succ]
  -- 6: t10 := fieldAddr 24 t9 1 : 0
  refine wpB_take (i := 6) (v := ?_) (get_of_drop rfl) (by kernel_rfl) (by kernel_rfl) (by kernel_rfl) (by kernel_rfl) (fun _ _ _ h => h) (Or.inl ⟨by rfl, ?_⟩) hHeld ?_
  rotate_left
  · (intro w hSw; (try dsimp only at hSw); go_simp <;> with_reducible rfl)
  try simp only [Act.put, List.setIfInBounds_toArray, List.set_cons_zero, List.set_cons_succ]
  -- 7: t11 := move t1 : 77
  refine wpB_take (i := 7) (v := ?_) (get_of_drop rfl) (by kernel_rfl) (by kernel_rfl) (by kernel_rfl) (by kernel_rfl) (fun _ _ _ h => h) (Or.inl ⟨by rfl, ?_⟩) hHeld ?_
  rotate_left
  · (intro w hSw; (try dsimp only at hSw); go_simp <;> with_reducible rfl)
  try simp only [Act.put, List.setIfInBounds_toArray, List.set_cons_zero, List.set_cons_succ]
  -- 8: t12 := nilCheck t11 : 0
  refine wpB_take (i := 8) (v := ?_) (get_of_drop rfl) (by kernel_rfl) (by kernel_rfl) (by kernel_rfl) (by kernel_rfl) (fun _ _ _ h => h) (Or.inl ⟨by rfl, ?_⟩) hHeld ?_
  rotate_left
  · (intro w hSw; (try dsimp only at hSw); go_simp <;> with_reducible rfl)
  try simp only [Act.put, List.setIfInBounds_toArray, List.set_cons_zero, List.set_cons_succ]
  -- 9: t13 := fieldAddr 24 t12 2 : 0
  refine wpB_take (i := 9) (v := ?_) (get_of_drop rfl) (by kernel_rfl) (by kernel_rfl) (by kernel_rfl) (by kernel_rfl) (fun _ _ _ h => h) (Or.inl ⟨by rfl, ?_⟩) hHeld ?_
  rotate_left
  · (intro w hSw; (try dsimp only at hSw); go_simp <;> with_reducible rfl)
  try simp only [Act.put, List.setIfInBounds_toArray, List.set_cons_zero, List.set_cons_succ]
  -- 10: t14 := buildSlice 115 3 [⟨0, t7⟩, ⟨1, t10⟩, ⟨2, t13⟩] : 115
  refine wpB_act (i := 10) (by kernel_rfl) (get_of_drop rfl) (fun K hK => ?_)
  go_simp
  refine hK.out _ _ ?_ (fun hHeld2 => ?_)
  · exact trivial
  clear hHeld hK K
  have hHeld := hHeld2
  clear hHeld2
  try simp only [Act.put, List.setIfInBounds_toArray, List.set_cons_zero, List.set_cons_succ]
  -- 11: t15 := CALL fn55(t4, t14) : 0
  refine wpB_act (i := 11) (by kernel_rfl) (get_of_drop rfl) (fun K hK => ?_)
  go_simp
  have CC := hid (show Chg (fun _ => False) w (w.alloc (.cells (ptrs p 3).toArray 102)).drew from ((Chg.refl _ w).alloc _).drew)
  refine (num_w (S := fun k => S k ∧ k < w.heap.size) (vs := m.nums) (p := p) (R := fun k => k = w.heap.size) (HB.out.chg CC.out (fun _ _ h => h)) (lit_sees w (ptrs p 3).toArray 102) (fun k hk hs => by have := hs.2; omega) (fun i u hi => by
    rw [cellAt (CC.out.blk HP.out (fun h => h))]
    exact ints_at hi _) (fun hs => hpS hs.1) (fun u hu => HOK.out.nums u hu) (by omega) (by show 3 ≤ 7; omega)).mono ?_
  rintro e' w1 ⟨rfl, h1⟩
  have HT := hid (WrTo.pre (S := fun k => S k ∧ k < w.heap.size) CC.out h1 (fun k hk => .inl hk))
  clear h1
  refine hK.out _ _ ?_ (fun hHeld2 => ?_)
  · exact trivial
  clear hHeld hK K
  have hHeld := hHeld2
  clear hHeld2
  try simp only [Act.put, List.setIfInBounds_toArray, List.set_cons_zero, List.set_cons_succ]
  refine wpB_done (by kernel_rfl) ?_ _
  clear hHeld
  obtain ⟨v1, hv1, hc1⟩ := HT.out
  have H1 := hid hv1.bound
  have HC1 := hid hc1
  clear hv1 hc1
  have HP1 := hid (HC1.out.blk HP.out (fun h => hpS h.1))
  have HE1 := hid (HE.out.chg HC1.out (fun k hk h => HR.out k hk.1 h.1))
  have HN1 := hid HE.out.1
  go_wp2_with fail
  refine (ents_w (o := 3) H1.out (by rw [cellAt HP1.out]; rfl) (fun hs => by have := HPL.out; rcases hs.1 with h | h; exact hpS h.1; omega) HE1.out (fun k hk hs => by have := hk.2; rcases hs.1 with h | h; exact HR.out k hk.1 h.1; omega) HOK.out.log (by rw [HN1.out]; exact HOK.out.len) (by rw [List.length_append, HNL.out]; omega) 54).mono ?_
  rintro e' w2 ⟨rfl, h2⟩
  have HF := hid (WrTo.pre (S := S) (Chg.refl _ _) (HT.out.trans (WrTo.pre (Chg.refl _ _) h2 (fun k hk => .inl hk.1))) (fun k hk => .inl hk.1))
  clear h2
  go_wp2_with fail
  go_end0
  refine ⟨rfl, ?_⟩
  have q := HF.out
  rw [HN1.out] at q
  unfold recB logB
  simpa only [List.append_assoc] using q

/-- It was read into a block. -/
def RecTo (w : World) (B g : Nat) (A : Option Addr) (n c : Nat) (b : List UInt8) (at_ : Nat) (bad : Bool) (p tp : Nat) (w' : World) : Prop :=
  ∃ (m : Rec) (A1 : Option Addr) (n1 c1 : Nat), (∀ u ∈ m.nums, (Lit.int .i64 u).wf = true) ∧ Ty.At entryK w' (fun k => w.heap.size ≤ k) A1 n1 c1 m.log ∧ w'.heap[p]? = some (.cells (recCells m A1 n1 c1).toArray tp (0, 0)) ∧ Chg (fun j => j = g ∨ j = p) w w' ∧ RdTo B g A n c b at_ bad rdRec w' m ∧ m.log.length ≤ n

set_option maxHeartbeats 4000000 in
set_option maxRecDepth 100000 in
theorem record_r {w : World} {B g p tp : Nat} {A : Option Addr} {n c : Nat} {b : List UInt8} {at_ : Nat} {bad : Bool} {vs : List Int} (h : Rd w B g A n c b at_ bad) (hp : w.heap[p]? = some (.cells (ints vs ++ [Value.slice none 0 0]).toArray tp (0, 0))) (hvs : vs.length = 3) (hpB : B ≤ p) (hpg : p ≠ g) (hwf : ∀ u ∈ vs, (Lit.int .i64 u).wf = true) (hn : n ≤ 1000000) :
    Calls Try.prog 33 #[.pointer (some ⟨g, 0, none⟩), .pointer (some ⟨p, 0, none⟩)] w fun e' w' => e' = .returned (.tuple #[]) ∧ RecTo w B g A n c b at_ bad p tp w' := by
  have H := hid h
  have HP := hid hp
  have HPL := hid (lt_of_blk hp)
  have HGL := hid h.lt
  have HWF := hid hwf
  clear h hp hwf
  go_enter Try.func33, Try.ntmps33
  go_wp2_with fail
  refine wpB_start (fun _ : World => True) (by kernel_rfl) ?_
  have hHeld := trivial
  -- 0: t4 := move t0 : 73
  refine wpB_take (i := 0) (v := ?_) (get_of_drop rfl) (by kernel_rfl) (by kernel_rfl) (by kernel_rfl) (by kernel_rfl) (fun _ _ _ h => h) (Or.inl ⟨by rfl, ?_⟩) hHeld ?_
  rotate_left
  · (intro w hSw; (try dsimp only at hSw); go_simp <;> with_reducible rfl)
  try simp only [Act.put, List.setIfInBounds_toArray, List.set_cons_zero, List.set_cons_succ]
  -- 1: t5 := move t1 : 77
  refine wpB_take (i := 1) (v := ?_) (get_of_drop rfl) (by kernel_rfl) (by kernel_rfl) (by kernel_rfl) (by kernel_rfl) (fun _ _ _ h => h) (Or.inl ⟨by rfl, ?_⟩) hHeld ?_
  rotate_left
  · (intro w hSw; (try dsimp only at hSw); go_simp <;> with_reducible rfl)
  try simp only [Act.put, List.setIfInBounds_toArray, List.set_cons_zero, List.set_cons_succ]
  -- 2: t6 := nilCheck t5 : 0
  refine wpB_take (i := 2) (v := ?_) (get_of_drop rfl) (by kernel_rfl) (by kernel_rfl) (by kernel_rfl) (by kernel_rfl) (fun _ _ _ h => h) (Or.inl ⟨by rfl, ?_⟩) hHeld ?_
  rotate_left
  · (intro w hSw; (try dsimp only at hSw); go_simp <;> with_reducible rfl)
  try simp only [Act.put, List.setIfInBounds_toArray, List.set_cons_zero, List.set_cons_succ]
  -- 3: t7 := fieldAddr 24 t6 0 : 0
  refine wpB_take (i := 3) (v := ?_) (get_of_drop rfl) (by kernel_rfl) (by kernel_rfl) (by kernel_rfl) (by kernel_rfl) (fun _ _ _ h => h) (Or.inl ⟨by rfl, ?_⟩) hHeld ?_
  rotate_left
  · (intro w hSw; (try dsimp only at hSw); go_simp <;> with_reducible rfl)
  try simp only [Act.put, List.setIfInBounds_toArray, List.set_cons_zero, List.set_cons_succ]
  -- 4: t8 := move t1 : 77
  refine wpB_take (i := 4) (v := ?_) (get_of_drop rfl) (by kernel_rfl) (by kernel_rfl) (by kernel_rfl) (by kernel_rfl) (fun _ _ _ h => h) (Or.inl ⟨by rfl, ?_⟩) hHeld ?_
  rotate_left
  · (intro w hSw; (try dsimp only at hSw); go_simp <;> with_reducible rfl)
  try simp only [Act.put, List.setIfInBounds_toArray, List.set_cons_zero, List.set_cons_succ]
  -- 5: t9 := nilCheck t8 : 0
  refine wpB_take (i := 5) (v := ?_) (get_of_drop rfl) (by kernel_rfl) (by kernel_rfl) (by kernel_rfl) (by kernel_rfl) (fun _ _ _ h => h) (Or.inl ⟨by rfl, ?_⟩) hHeld ?_
  rotate_left
  · (intro w hSw; (try dsimp only at hSw); go_simp <;> with_reducible rfl)
  try simp only [Act.put, List.setIfInBounds_toArray, List.set_cons_zero, List.set_cons_succ]
  -- 6: t10 := fieldAddr 24 t9 1 : 0
  refine wpB_take (i := 6) (v := ?_) (get_of_drop rfl) (by kernel_rfl) (by kernel_rfl) (by kernel_rfl) (by kernel_rfl) (fun _ _ _ h => h) (Or.inl ⟨by rfl, ?_⟩) hHeld ?_
  rotate_left
  · (intro w hSw; (try dsimp only at hSw); go_simp <;> with_reducible rfl)
  try simp only [Act.put, List.setIfInBounds_toArray, List.set_cons_zero, List.set_cons_succ]
  -- 7: t11 := move t1 : 77
  refine wpB_take (i := 7) (v := ?_) (get_of_drop rfl) (by kernel_rfl) (by kernel_rfl) (by kernel_rfl) (by kernel_rfl) (fun _ _ _ h => h) (Or.inl ⟨by rfl, ?_⟩) hHeld ?_
  rotate_left
  · (intro w hSw; (try dsimp only at hSw); go_simp <;> with_reducible rfl)
  try simp only [Act.put, List.setIfInBounds_toArray, List.set_cons_zero, List.set_cons_succ]
  -- 8: t12 := nilCheck t11 : 0
  refine wpB_take (i := 8) (v := ?_) (get_of_drop rfl) (by kernel_rfl) (by kernel_rfl) (by kernel_rfl) (by kernel_rfl) (fun _ _ _ h => h) (Or.inl ⟨by rfl, ?_⟩) hHeld ?_
  rotate_left
  · (intro w hSw; (try dsimp only at hSw); go_simp <;> with_reducible rfl)
  try simp only [Act.put, List.setIfInBounds_toArray, List.set_cons_zero, List.set_cons_succ]
  -- 9: t13 := fieldAddr 24 t12 2 : 0
  refine wpB_take (i := 9) (v := ?_) (get_of_drop rfl) (by kernel_rfl) (by kernel_rfl) (by kernel_rfl) (by kernel_rfl) (fun _ _ _ h => h) (Or.inl ⟨by rfl, ?_⟩) hHeld ?_
  rotate_left
  · (intro w hSw; (try dsimp only at hSw); go_simp <;> with_reducible rfl)
  try simp only [Act.put, List.setIfInBounds_toArray, List.set_cons_zero, List.set_cons_succ]
  -- 10: t14 := buildSlice 115 3 [⟨0, t7⟩, ⟨1, t10⟩, ⟨2, t13⟩] : 115
  refine wpB_act (i := 10) (by kernel_rfl) (get_of_drop rfl) (fun K hK => ?_)
  go_simp
  refine hK.out _ _ ?_ (fun hHeld2 => ?_)
  · exact trivial
  clear hHeld hK K
  have hHeld := hHeld2
  clear hHeld2
  try simp only [Act.put, List.setIfInBounds_toArray, List.set_cons_zero, List.set_cons_succ]
  -- 11: t15 := CALL fn55(t4, t14) : 0
  refine wpB_act (i := 11) (by kernel_rfl) (get_of_drop rfl) (fun K hK => ?_)
  go_simp
  have CC := hid (show Chg (fun _ => False) w (w.alloc (.cells (ptrs p 3).toArray 102)).drew from ((Chg.refl _ w).alloc _).drew)
  have hnum := num_r (vs := vs) (r := [Value.slice none 0 0]) (p := p) (tp := tp) (R := fun k => k = w.heap.size) (cl := 3) (H.out.chg CC.out (fun _ h => h.elim) (fun h => h)) (by rw [hvs]; exact lit_sees w (ptrs p 3).toArray 102) (fun k hk => by have := HPL.out; have := HGL.out; omega) (CC.out.blk HP.out (fun h => h)) hpB hpg HWF.out (by omega) (by omega)
  rw [hvs] at hnum
  refine hnum.mono ?_
  rintro e' w1 ⟨rfl, us, hus, hw, hblk, hchg, at1, bad1, hrd, heq⟩
  have HT := hid (And.intro hus (And.intro hw (And.intro hblk (And.intro ((CC.out.mono (S' := fun j => j = g ∨ j = p) (fun _ h _ => h.elim)).trans hchg (fun _ h _ => h)) (And.intro hrd heq)))))
  clear hus hw hblk hchg hrd heq
  refine hK.out _ _ ?_ (fun hHeld2 => ?_)
  · exact trivial
  clear hHeld hK K
  have hHeld := hHeld2
  clear hHeld2
  try simp only [Act.put, List.setIfInBounds_toArray, List.set_cons_zero, List.set_cons_succ]
  refine wpB_done (by kernel_rfl) ?_ _
  clear hHeld hnum
  obtain ⟨q1, q2, q3, q4, q5, q6⟩ := HT.out
  have Q1 := hid (show us.length = 3 from q1)
  have Q3 := hid q3
  have Q5 := hid q5
  clear q1 q2 q3 q4 q5 q6
  go_wp2_with fail
  refine (ents_r (o := 3) (tp := tp) Q5.out Q3.out (by simp [Q1.out]) hpB hpg hn (L := 54) (by omega) (by omega)).mono ?_
  rintro e' w2 ⟨rfl, xs, A1, c1, hxl, hblk, hvec, hchg, hrd⟩
  have HT2 := hid (And.intro hblk (And.intro hvec (And.intro hchg (And.intro hrd hxl))))
  clear hblk hvec hchg hrd
  go_wp2_with fail
  go_end0
  obtain ⟨u0, u1, u2, hul⟩ : ∃ u0 u1 u2, us = [u0, u1, u2] := by
    match us, Q1.out with
    | [u0, u1, u2], _ => exact ⟨u0, u1, u2, rfl⟩
  subst hul
  obtain ⟨_, w1f, _, ch1, _, eq1⟩ := HT.out
  obtain ⟨b2, v2, ch2, ⟨at2, bad2, rd2, eq2⟩, hl2⟩ := HT2.out
  have hwl : w.heap.size ≤ w1.heap.size := ch1.size
  refine ⟨rfl, mkRec [u0, u1, u2] xs, A1, xs.length, c1, w1f, v2.at.mono (fun k hk => by rcases hk with hk | hk <;> omega), b2, ch1.trans ch2 (fun _ h _ => h), ⟨at2, bad2, rd2, thenRd_eq _ eq1 eq2⟩, hl2⟩
end Go.Proofs.Ytcmfgijdelaelaa.Pa
