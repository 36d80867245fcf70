
/- The contracts of the codec's written and whole, of Encode and EncodeRecord. -/

import Derived.Test.YtcmfgijdelaelaaPackRe

import Derived.Test.YtcmfgijdelaelaaPackRg

import Derived.Test.YtcmfgijdelaelaaPackQ

namespace Go.Proofs.Ytcmfgijdelaelaa.Pa

set_option linter.unusedVariables false

set_option linter.unusedSimpArgs false

open Go.RowKit Go.Proofs.Ytcmfgijdelaelaa.C

attribute [local go_sem] max2_int min2_int max_two min_two

theorem written_no {w : World} {g : Nat} : Calls Try.prog 34 #[.pointer (some ⟨g, 0, none⟩), .bool false] w fun e w' => e = .returned (.tuple #[.slice none 0 0, .int .i64 10]) ∧ w = w' := by
  go_enter Try.func34, Try.ntmps34
  go_wp2_with fail
  go_ret2
  exact ⟨rfl, rfl⟩
theorem written_yes {w : World} {g n c : Nat} {A : Option Addr} (h : w.cell? ⟨g, 0, none⟩ = some (.slice A n c)) (hn : n ≤ 1000000000) : Calls Try.prog 34 #[.pointer (some ⟨g, 0, none⟩), .bool true] w fun e w' => e = .returned (if n ≤ 65536 then .tuple #[.slice A n c, .int .i64 0] else .tuple #[.slice none 0 0, .int .i64 12]) ∧ w = w' := by
  by_cases hb : n ≤ 65536
  · rw [if_pos hb]
    have hb2 : ¬ (65536 : Int) < (n : Int) := by omega
    clear hb
    go_enter Try.func34, Try.ntmps34
    go_wp2_with fail
    go_ret2
    exact ⟨rfl, rfl⟩
  · rw [if_neg hb]
    have hb2 : (65536 : Int) < (n : Int) := by omega
    clear hb
    go_enter Try.func34, Try.ntmps34
    go_wp2_with fail
    go_ret2
    exact ⟨rfl, rfl⟩
set_option maxHeartbeats 2000000 in
theorem whole_any {w : World} {B g : Nat} {A : Option Addr} {n c : Nat} {b : List UInt8} {at_ : Nat} {bad : Bool} (h : Rd w B g A n c b at_ bad) (hn : n ≤ 1000000000) :
    Calls Try.prog 39 #[.pointer (some ⟨g, 0, none⟩)] w fun e w' => e = .returned (.bool (!bad && decide (at_ = n) && decide (n ≤ 65536))) ∧ ∃ q, w' = w.drewN q := by
  obtain ⟨d0, d1, d2, d3⟩ := h.cells
  have hle := h.le
  clear h d2
  cases bad with
  | true =>
    go_enter Try.func39, Try.ntmps39
    go_wp2_with fail
    go_quiet (fail)
    go_wp2_with fail
    go_ret
    exact ⟨rfl, _, rfl⟩
  | false =>
    by_cases ha : at_ = n
    · subst ha
      have hb : ((at_ : Int) == (at_ : Int)) = true := by simp
      by_cases hbig : at_ ≤ 65536
      · rw [decide_eq_true hbig]
        have hb2 : (at_ : Int) ≤ 65536 := by omega
        clear hbig
        go_enter Try.func39, Try.ntmps39
        go_wp2_with fail
        go_quiet (fail)
        go_wp2_with fail
        go_ret
        exact ⟨by simp, _, rfl⟩
      · rw [decide_eq_false hbig]
        have hb2 : decide ((at_ : Int) ≤ 65536) = false := decide_eq_false (by omega)
        clear hbig
        go_enter Try.func39, Try.ntmps39
        go_wp2_with fail
        go_quiet (fail)
        go_wp2_with fail
        go_ret
        exact ⟨by simp [hb2], _, rfl⟩
    · have hb : ((at_ : Int) == (n : Int)) = false := by simpa using (fun h => ha (by omega) : ¬ (at_ : Int) = (n : Int))
      rw [decide_eq_false ha]
      clear ha
      go_enter Try.func39, Try.ntmps39
      go_wp2_with fail
      go_quiet (fail)
      go_wp2_with fail
      go_ret
      exact ⟨rfl, _, rfl⟩
theorem logR_ok {lo hi : Int} {l : List Entry} (h : logR lo hi l = true) (hh : hi ≤ 100) : (∀ e ∈ l, EntryOk e) ∧ l.length ≤ 100 := by
  unfold logR at h
  simp only [Bool.and_eq_true, decide_eq_true_eq, List.all_eq_true] at h
  exact ⟨fun e he => entryR_ok (h.2 e he), by omega⟩
theorem msgR_ok {m : Msg} (h : msgR m = true) : MsgOk m := by
  unfold msgR at h
  simp only [Bool.and_eq_true] at h
  obtain ⟨⟨⟨⟨⟨⟨⟨h1, h2⟩, h3⟩, h4⟩, h5⟩, h6⟩, h7⟩, h8⟩ := h
  have hl : (∀ e ∈ m.log, EntryOk e) ∧ m.log.length ≤ 100 := by
    split at h8
    · exact logR_ok h8 (by decide)
    · split at h8
      · exact logR_ok h8 (by decide)
      · have : m.log = [] := List.eq_nil_of_length_eq_zero (of_decide_eq_true h8)
        rw [this]
        exact ⟨(fun e he => by cases he), by simp⟩
  have q1 := of_decide_eq_true h1
  have q2 := of_decide_eq_true h2
  have q3 := of_decide_eq_true h3
  have q4 := of_decide_eq_true h4
  have q5 := of_decide_eq_true h5
  have q6 := of_decide_eq_true h6
  have q7 := of_decide_eq_true h7
  refine ⟨?_, hl.1, hl.2⟩
  intro u hu
  simp [Msg.nums] at hu
  unfold NumOk
  omega
theorem recR_ok {m : Rec} (h : recR m = true) : RecOk m := by
  unfold recR at h
  simp only [Bool.and_eq_true] at h
  obtain ⟨⟨⟨h1, h2⟩, h3⟩, h8⟩ := h
  have hl : (∀ e ∈ m.log, EntryOk e) ∧ m.log.length ≤ 100 := by
    split at h8
    · exact logR_ok h8 (by decide)
    · have : m.log = [] := List.eq_nil_of_length_eq_zero (of_decide_eq_true h8)
      rw [this]
      exact ⟨(fun e he => by cases he), by simp⟩
  have q1 := of_decide_eq_true h1
  have q2 := of_decide_eq_true h2
  have q3 := of_decide_eq_true h3
  refine ⟨?_, hl.1, hl.2⟩
  intro u hu
  simp [Rec.nums] at hu
  unfold NumOk
  omega

/-- What Encode tells. -/
def EncMsg (m : Msg) (w : World) (e' : Ending) (w' : World) : Prop :=
  Chg (fun _ => False) w w' ∧ ((msgR m = false ∧ e' = .returned (.tuple #[.slice none 0 0, .int .i64 10])) ∨ (msgR m = true ∧ 65536 < (msgB m).length ∧ e' = .returned (.tuple #[.slice none 0 0, .int .i64 12])) ∨
    (msgR m = true ∧ (msgB m).length ≤ 65536 ∧ ∃ A' c', e' = .returned (.tuple #[.slice A' (msgB m).length c', .int .i64 0]) ∧ Byt w' (fun k => w.heap.size ≤ k) (.slice A' (msgB m).length c') (msgB m)))
set_option maxHeartbeats 4000000 in
set_option maxRecDepth 100000 in
theorem encode_any {w : World} {R : Nat → Prop} {m : Msg} {A : Option Addr} {n c : Nat} (hl : Ty.At entryK w R A n c m.log) :
    Calls Try.prog 20 #[.agg #[.int .i64 m.kind, .int .i64 m.view, .int .i64 m.src, .int .i64 m.dst, .int .i64 m.op, .int .i64 m.commit, .int .i64 m.normal, .slice A n c]] w (EncMsg m w) := by
  obtain ⟨g, hg⟩ : ∃ g, g = w.heap.size + 1 := ⟨_, rfl⟩
  obtain ⟨w0, hw0⟩ : ∃ w0, w0 = (w.alloc (.cells #[.int .i64 m.kind, .int .i64 m.view, .int .i64 m.src, .int .i64 m.dst, .int .i64 m.op, .int .i64 m.commit, .int .i64 m.normal, .slice A n c] 43)).alloc (.cells #[.slice none 0 0, .int .i64 0, .bool true, .bool false] 75) := ⟨_, rfl⟩
  have C0 := hid (show Chg (fun _ => False) w w0 by rw [hw0]; exact ((Chg.refl _ w).alloc _).alloc _)
  have B0 := hid (show w0.heap[w.heap.size]? = some (.cells #[.int .i64 m.kind, .int .i64 m.view, .int .i64 m.src, .int .i64 m.dst, .int .i64 m.op, .int .i64 m.commit, .int .i64 m.normal, .slice A n c] 43 (0, 0)) by rw [hw0]; exact blk_alloc (blk_new w _) _)
  have G0 : w0.heap[g]? = some (.cells #[.slice none 0 0, .int .i64 0, .bool true, .bool false] 75 (0, 0)) := by
    rw [hw0, hg]
    have := blk_new (w.alloc (.cells #[.int .i64 m.kind, .int .i64 m.view, .int .i64 m.src, .int .i64 m.dst, .int .i64 m.op, .int .i64 m.commit, .int .i64 m.normal, .slice A n c] 43)) (.cells #[.slice none 0 0, .int .i64 0, .bool true, .bool false] 75)
    simpa using this
  have HW := hid (show Wr w0 (fun k => k = g) g (.slice none 0 0) [] from ⟨rfl, G0, own_nil _ _ _, fun k hk => by simp [Value.ownBlock] at hk⟩)
  have hgw : w.heap.size < g := by omega
  have HL := hid (hl.bound.chg C0.out (fun _ _ h => h))
  have x0 : w0.cell? ⟨w.heap.size, 0, none⟩ = some (.int .i64 m.kind) := (cellAt B0.out 0).trans rfl
  have x1 : w0.cell? ⟨w.heap.size, 1, none⟩ = some (.int .i64 m.view) := (cellAt B0.out 1).trans rfl
  have x2 : w0.cell? ⟨w.heap.size, 2, none⟩ = some (.int .i64 m.src) := (cellAt B0.out 2).trans rfl
  have x3 : w0.cell? ⟨w.heap.size, 3, none⟩ = some (.int .i64 m.dst) := (cellAt B0.out 3).trans rfl
  have x4 : w0.cell? ⟨w.heap.size, 4, none⟩ = some (.int .i64 m.op) := (cellAt B0.out 4).trans rfl
  have x5 : w0.cell? ⟨w.heap.size, 5, none⟩ = some (.int .i64 m.commit) := (cellAt B0.out 5).trans rfl
  have x6 : w0.cell? ⟨w.heap.size, 6, none⟩ = some (.int .i64 m.normal) := (cellAt B0.out 6).trans rfl
  have x7 : w0.cell? ⟨w.heap.size, 7, none⟩ = some (.slice A n c) := (cellAt B0.out 7).trans rfl
  clear hl G0
  go_enter Try.func20, Try.ntmps20
  go_wp2_with fail
  rw [← hw0, ← hg]
  clear hw0
  refine (msgright_any (m := m) HL.out).mono ?_
  rintro e' w1 ⟨rfl, h1⟩
  have C1 := hid h1
  have S1 := hid (show w.heap.size ≤ w1.heap.size from Nat.le_trans C0.out.size h1.size)
  clear h1
  clear x0 x1 x2 x3 x4 x5 x6 x7
  cases hr : msgR m
  · have HR := hid hr
    clear hr hg
    go_wp2_with fail
    refine written_no.mono ?_
    rintro e' w2 ⟨rfl, rfl⟩
    go_wp2_with fail
    go_ret2
    exact ⟨C0.out.trans C1.out (fun _ h _ => h), .inl ⟨HR.out, rfl⟩⟩
  have HR := hid hr
  have HOK := hid (msgR_ok hr)
  clear hr hg
  go_wp2_with fail
  refine (message_w (HW.out.chg C1.out (fun _ _ h => h)) (C1.out.blk B0.out (fun h => h)) (by omega) (HL.out.chg C1.out (fun _ _ h => h)) (fun k hk e => by have := hk.2; omega) HOK.out (by simp)).mono ?_
  rintro e' w2 ⟨rfl, v2, h2, hc2⟩
  have H2 := hid h2
  have C2 := hid hc2
  have hlen := msgB_len HOK.out
  obtain ⟨A2, c2, hv2⟩ := h2.form
  rw [List.nil_append] at hv2
  subst hv2
  have d0 := h2.cells.1
  clear h2 hc2
  go_wp2_with fail
  refine (written_yes d0 (by omega)).mono ?_
  rintro e' w3 ⟨rfl, rfl⟩
  have CF := hid (show Chg (fun _ => False) w w2 from (C0.out.trans C1.out (fun _ h _ => h)).trans C2.out (fun k hk hl => by have q : k = g := hk; omega))
  by_cases hb : (msgB m).length ≤ 65536
  · rw [if_pos hb]
    have HB := hid hb
    clear hb d0
    go_wp2_with fail
    go_ret2
    refine ⟨CF.out, .inr (.inr ⟨HR.out, HB.out, A2, c2, rfl, H2.out.row, fun k hk => ?_⟩)⟩
    have s1 := S1.out
    rcases H2.out.rowS k hk with q | q
    · have q' : k = g := q
      show w.heap.size ≤ k
      omega
    · exact Nat.le_trans s1 q
  · rw [if_neg hb]
    have HB := hid hb
    clear hb d0
    go_wp2_with fail
    go_ret2
    exact ⟨CF.out, .inr (.inl ⟨HR.out, Nat.lt_of_not_le HB.out, rfl⟩)⟩

/-- What Encode tells. -/
def EncRec (m : Rec) (w : World) (e' : Ending) (w' : World) : Prop :=
  Chg (fun _ => False) w w' ∧ ((recR m = false ∧ e' = .returned (.tuple #[.slice none 0 0, .int .i64 10])) ∨ (recR m = true ∧ 65536 < (recB m).length ∧ e' = .returned (.tuple #[.slice none 0 0, .int .i64 12])) ∨
    (recR m = true ∧ (recB m).length ≤ 65536 ∧ ∃ A' c', e' = .returned (.tuple #[.slice A' (recB m).length c', .int .i64 0]) ∧ Byt w' (fun k => w.heap.size ≤ k) (.slice A' (recB m).length c') (recB m)))
set_option maxHeartbeats 4000000 in
set_option maxRecDepth 100000 in
theorem encoderec_any {w : World} {R : Nat → Prop} {m : Rec} {A : Option Addr} {n c : Nat} (hl : Ty.At entryK w R A n c m.log) :
    Calls Try.prog 13 #[.agg #[.int .i64 m.kind, .int .i64 m.a, .int .i64 m.b, .slice A n c]] w (EncRec m w) := by
  obtain ⟨g, hg⟩ : ∃ g, g = w.heap.size + 1 := ⟨_, rfl⟩
  obtain ⟨w0, hw0⟩ : ∃ w0, w0 = (w.alloc (.cells #[.int .i64 m.kind, .int .i64 m.a, .int .i64 m.b, .slice A n c] 24)).alloc (.cells #[.slice none 0 0, .int .i64 0, .bool true, .bool false] 75) := ⟨_, rfl⟩
  have C0 := hid (show Chg (fun _ => False) w w0 by rw [hw0]; exact ((Chg.refl _ w).alloc _).alloc _)
  have B0 := hid (show w0.heap[w.heap.size]? = some (.cells #[.int .i64 m.kind, .int .i64 m.a, .int .i64 m.b, .slice A n c] 24 (0, 0)) by rw [hw0]; exact blk_alloc (blk_new w _) _)
  have G0 : w0.heap[g]? = some (.cells #[.slice none 0 0, .int .i64 0, .bool true, .bool false] 75 (0, 0)) := by
    rw [hw0, hg]
    have := blk_new (w.alloc (.cells #[.int .i64 m.kind, .int .i64 m.a, .int .i64 m.b, .slice A n c] 24)) (.cells #[.slice none 0 0, .int .i64 0, .bool true, .bool false] 75)
    simpa using this
  have HW := hid (show Wr w0 (fun k => k = g) g (.slice none 0 0) [] from ⟨rfl, G0, own_nil _ _ _, fun k hk => by simp [Value.ownBlock] at hk⟩)
  have hgw : w.heap.size < g := by omega
  have HL := hid (hl.bound.chg C0.out (fun _ _ h => h))
  have x0 : w0.cell? ⟨w.heap.size, 0, none⟩ = some (.int .i64 m.kind) := (cellAt B0.out 0).trans rfl
  have x1 : w0.cell? ⟨w.heap.size, 1, none⟩ = some (.int .i64 m.a) := (cellAt B0.out 1).trans rfl
  have x2 : w0.cell? ⟨w.heap.size, 2, none⟩ = some (.int .i64 m.b) := (cellAt B0.out 2).trans rfl
  have x3 : w0.cell? ⟨w.heap.size, 3, none⟩ = some (.slice A n c) := (cellAt B0.out 3).trans rfl
  clear hl G0
  go_enter Try.func13, Try.ntmps13
  go_wp2_with fail
  rw [← hw0, ← hg]
  clear hw0
  refine (recright_any (m := m) HL.out).mono ?_
  rintro e' w1 ⟨rfl, h1⟩
  have C1 := hid h1
  have S1 := hid (show w.heap.size ≤ w1.heap.size from Nat.le_trans C0.out.size h1.size)
  clear h1
  clear x0 x1 x2 x3
  cases hr : recR m
  · have HR := hid hr
    clear hr hg
    go_wp2_with fail
    refine written_no.mono ?_
    rintro e' w2 ⟨rfl, rfl⟩
    go_wp2_with fail
    go_ret2
    exact ⟨C0.out.trans C1.out (fun _ h _ => h), .inl ⟨HR.out, rfl⟩⟩
  have HR := hid hr
  have HOK := hid (recR_ok hr)
  clear hr hg
  go_wp2_with fail
  refine (record_w (HW.out.chg C1.out (fun _ _ h => h)) (C1.out.blk B0.out (fun h => h)) (by omega) (HL.out.chg C1.out (fun _ _ h => h)) (fun k hk e => by have := hk.2; omega) HOK.out (by simp)).mono ?_
  rintro e' w2 ⟨rfl, v2, h2, hc2⟩
  have H2 := hid h2
  have C2 := hid hc2
  have hlen := recB_len HOK.out
  obtain ⟨A2, c2, hv2⟩ := h2.form
  rw [List.nil_append] at hv2
  subst hv2
  have d0 := h2.cells.1
  clear h2 hc2
  go_wp2_with fail
  refine (written_yes d0 (by omega)).mono ?_
  rintro e' w3 ⟨rfl, rfl⟩
  have CF := hid (show Chg (fun _ => False) w w2 from (C0.out.trans C1.out (fun _ h _ => h)).trans C2.out (fun k hk hl => by have q : k = g := hk; omega))
  by_cases hb : (recB m).length ≤ 65536
  · rw [if_pos hb]
    have HB := hid hb
    clear hb d0
    go_wp2_with fail
    go_ret2
    refine ⟨CF.out, .inr (.inr ⟨HR.out, HB.out, A2, c2, rfl, H2.out.row, fun k hk => ?_⟩)⟩
    have s1 := S1.out
    rcases H2.out.rowS k hk with q | q
    · have q' : k = g := q
      show w.heap.size ≤ k
      omega
    · exact Nat.le_trans s1 q
  · rw [if_neg hb]
    have HB := hid hb
    clear hb d0
    go_wp2_with fail
    go_ret2
    exact ⟨CF.out, .inr (.inl ⟨HR.out, Nat.lt_of_not_le HB.out, rfl⟩)⟩
end Go.Proofs.Ytcmfgijdelaelaa.Pa
