
/- The contracts of Decode and DecodeRecord. -/

import Derived.Test.YtcmfgijdelaelaaPackEn

import Derived.Test.YtcmfgijdelaelaaPackX

namespace Go.Proofs.Ytcmfgijdelaelaa.Pa

set_option linter.unusedVariables false

set_option linter.unusedSimpArgs false

open Go.RowKit Go.Proofs.Ytcmfgijdelaelaa.C

attribute [local go_sem] max2_int min2_int max_two min_two

def parseMsg (b : List UInt8) : Option Msg := (rdMsg b).bind fun q => if q.2 = [] ∧ b.length ≤ 65536 ∧ msgR q.1 = true then some q.1 else none
/-- What Decode tells. -/
def DecMsg (w : World) (b : List UInt8) (e' : Ending) (w' : World) : Prop :=
  Chg (fun _ => False) w w' ∧ ((parseMsg b = none ∧ e' = .returned (.tuple #[.agg #[.int .i64 0, .int .i64 0, .int .i64 0, .int .i64 0, .int .i64 0, .int .i64 0, .int .i64 0, .slice none 0 0], .int .i64 10])) ∨
    (∃ (m : Msg) (A' : Option Addr) (n' c' : Nat), parseMsg b = some m ∧ e' = .returned (.tuple #[.agg #[.int .i64 m.kind, .int .i64 m.view, .int .i64 m.src, .int .i64 m.dst, .int .i64 m.op, .int .i64 m.commit, .int .i64 m.normal, .slice A' n' c'], .int .i64 0]) ∧ (∀ u ∈ m.nums, (Lit.int .i64 u).wf = true) ∧ Ty.At entryK w' (fun k => w.heap.size ≤ k) A' n' c' m.log))
theorem parseMsg_big {b : List UInt8} (h : ¬ b.length ≤ 65536) : parseMsg b = none := by
  unfold parseMsg
  cases rdMsg b with
  | none => rfl
  | some q => rw [Option.bind_some, if_neg (fun hq => h hq.2.1)]
theorem parseMsg_bad {b : List UInt8} {m : Msg} {at' : Nat} (h : (left b 0 false).bind rdMsg = (left b at' true).map fun r => (m, r)) : parseMsg b = none := by
  rw [left_some, List.drop_zero, Option.bind_some, left_none, Option.map_none] at h
  unfold parseMsg
  rw [h]
  rfl
theorem parseMsg_good {b : List UInt8} {m : Msg} {at' : Nat} (h : (left b 0 false).bind rdMsg = (left b at' false).map fun r => (m, r)) : parseMsg b = if b.drop at' = [] ∧ b.length ≤ 65536 ∧ msgR m = true then some m else none := by
  rw [left_some, List.drop_zero, Option.bind_some, left_some, Option.map_some] at h
  unfold parseMsg
  rw [h]
  rfl
set_option maxHeartbeats 4000000 in
set_option maxRecDepth 100000 in
theorem decode_any {w : World} {R : Nat → Prop} {A : Option Addr} {n c : Nat} {b : List UInt8} (h : Ty.At Ty.u8 w R A n c b) (hn : n ≤ 1000000) :
    Calls Try.prog 26 #[.slice A n c] w (DecMsg w b) := by
  have HN := hid h.1
  obtain ⟨g, hg⟩ : ∃ g, g = w.heap.size + 1 := ⟨_, rfl⟩
  obtain ⟨p, hp⟩ : ∃ p, p = w.heap.size + 1 + 1 := ⟨_, rfl⟩
  obtain ⟨w0, hw0⟩ : ∃ w0, w0 = ((w.alloc (.cells #[.int .i64 0, .int .i64 0, .int .i64 0, .int .i64 0, .int .i64 0, .int .i64 0, .int .i64 0, .slice none 0 0] 43)).alloc (.cells #[.slice A n c, .int .i64 0, .bool false, .bool false] 75)).alloc (.cells #[.int .i64 0, .int .i64 0, .int .i64 0, .int .i64 0, .int .i64 0, .int .i64 0, .int .i64 0, .slice none 0 0] 43) := ⟨_, rfl⟩
  have C0 := hid (show Chg (fun _ => False) w w0 by rw [hw0]; exact (((Chg.refl _ w).alloc _).alloc _).alloc _)
  have B0 := hid (show w0.heap[w.heap.size]? = some (.cells #[.int .i64 0, .int .i64 0, .int .i64 0, .int .i64 0, .int .i64 0, .int .i64 0, .int .i64 0, .slice none 0 0] 43 (0, 0)) by rw [hw0]; exact blk_alloc (blk_alloc (blk_new w _) _) _)
  have G0 : w0.heap[g]? = some (.cells #[.slice A n c, .int .i64 0, .bool false, .bool false] 75 (0, 0)) := by
    rw [hw0, hg]
    refine blk_alloc ?_ _
    have := blk_new (w.alloc (.cells #[.int .i64 0, .int .i64 0, .int .i64 0, .int .i64 0, .int .i64 0, .int .i64 0, .int .i64 0, .slice none 0 0] 43)) (.cells #[.slice A n c, .int .i64 0, .bool false, .bool false] 75)
    simpa using this
  have P0 := hid (show w0.heap[p]? = some (.cells #[.int .i64 0, .int .i64 0, .int .i64 0, .int .i64 0, .int .i64 0, .int .i64 0, .int .i64 0, .slice none 0 0] 43 (0, 0)) by
    rw [hw0, hp]
    have := blk_new ((w.alloc (.cells #[.int .i64 0, .int .i64 0, .int .i64 0, .int .i64 0, .int .i64 0, .int .i64 0, .int .i64 0, .slice none 0 0] 43)).alloc (.cells #[.slice A n c, .int .i64 0, .bool false, .bool false] 75)) (.cells #[.int .i64 0, .int .i64 0, .int .i64 0, .int .i64 0, .int .i64 0, .int .i64 0, .int .i64 0, .slice none 0 0] 43)
    simpa using this)
  have H0 := hid (show Rd w0 w.heap.size g A n c b 0 false from ⟨by omega, G0, (h.bound.mono (S' := fun k => k < w.heap.size) (fun k hk => hk.2)).chg C0.out (fun _ _ h => h), Nat.zero_le _⟩)
  have hgw : w.heap.size < g := by omega
  have hpg : p ≠ g := by omega
  have hwp : w.heap.size < p := by omega
  have HG := hid hg
  have HP := hid hp
  have HLEN := hid (show b.length = n from h.1.symm)
  clear h G0
  by_cases hb : n ≤ 65536
  case neg =>
    have hb2 : ¬ (n : Int) ≤ 65536 := by omega
    have PN := hid (parseMsg_big (b := b) (by rw [HLEN.out]; exact hb))
    have hn0 : n ≠ 0 := by omega
    clear hb
    go_enter Try.func26, Try.ntmps26
    go_wp2_with fail
    rw [← hg]
    rw [← hw0]
    clear hw0 hg hp
    refine (whole_any H0.out (by omega)).mono ?_
    rintro e' w2 ⟨rfl, q, hw2⟩
    rw [show (!false && decide (0 = n) && decide (n ≤ 65536)) = false by rw [decide_eq_false (fun e => hn0 e.symm)]; rfl]
    have C2 := hid (show Chg (fun _ => False) w w2 by rw [hw2]; exact C0.out.drewN q)
    have BT := hid (show w2.heap[w.heap.size]? = some (.cells #[.int .i64 0, .int .i64 0, .int .i64 0, .int .i64 0, .int .i64 0, .int .i64 0, .int .i64 0, .slice none 0 0] 43 (0, 0)) by rw [hw2]; exact B0.out)
    clear hw2
    have y0 : w2.cell? ⟨w.heap.size, 0, none⟩ = some (.int .i64 0) := (cellAt BT.out 0).trans rfl
    have f0 : w2.frozen? ⟨w.heap.size, 0, none⟩ = false := freeAt BT.out 0
    have y1 : w2.cell? ⟨w.heap.size, 1, none⟩ = some (.int .i64 0) := (cellAt BT.out 1).trans rfl
    have f1 : w2.frozen? ⟨w.heap.size, 1, none⟩ = false := freeAt BT.out 1
    have y2 : w2.cell? ⟨w.heap.size, 2, none⟩ = some (.int .i64 0) := (cellAt BT.out 2).trans rfl
    have f2 : w2.frozen? ⟨w.heap.size, 2, none⟩ = false := freeAt BT.out 2
    have y3 : w2.cell? ⟨w.heap.size, 3, none⟩ = some (.int .i64 0) := (cellAt BT.out 3).trans rfl
    have f3 : w2.frozen? ⟨w.heap.size, 3, none⟩ = false := freeAt BT.out 3
    have y4 : w2.cell? ⟨w.heap.size, 4, none⟩ = some (.int .i64 0) := (cellAt BT.out 4).trans rfl
    have f4 : w2.frozen? ⟨w.heap.size, 4, none⟩ = false := freeAt BT.out 4
    have y5 : w2.cell? ⟨w.heap.size, 5, none⟩ = some (.int .i64 0) := (cellAt BT.out 5).trans rfl
    have f5 : w2.frozen? ⟨w.heap.size, 5, none⟩ = false := freeAt BT.out 5
    have y6 : w2.cell? ⟨w.heap.size, 6, none⟩ = some (.int .i64 0) := (cellAt BT.out 6).trans rfl
    have f6 : w2.frozen? ⟨w.heap.size, 6, none⟩ = false := freeAt BT.out 6
    have y7 : w2.cell? ⟨w.heap.size, 7, none⟩ = some (.slice none 0 0) := (cellAt BT.out 7).trans rfl
    have f7 : w2.frozen? ⟨w.heap.size, 7, none⟩ = false := freeAt BT.out 7
    go_wp2_with fail
    obtain ⟨PB, PC⟩ := put_blk (#[.int .i64 0, .int .i64 0, .int .i64 0, .int .i64 0, .int .i64 0, .int .i64 0, .int .i64 0, .slice none 0 0] : Array Value).toList w2 _ BT.out rfl
    generalize hW : ((((((((w2.setCell ⟨w.heap.size, 0, none⟩ (.int .i64 0)).setCell ⟨w.heap.size, 1, none⟩ (.int .i64 0)).setCell ⟨w.heap.size, 2, none⟩ (.int .i64 0)).setCell ⟨w.heap.size, 3, none⟩ (.int .i64 0)).setCell ⟨w.heap.size, 4, none⟩ (.int .i64 0)).setCell ⟨w.heap.size, 5, none⟩ (.int .i64 0)).setCell ⟨w.heap.size, 6, none⟩ (.int .i64 0)).setCell ⟨w.heap.size, 7, none⟩ (.slice none 0 0)) = W
    have PB' : W.heap[w.heap.size]? = some (.cells #[.int .i64 0, .int .i64 0, .int .i64 0, .int .i64 0, .int .i64 0, .int .i64 0, .int .i64 0, .slice none 0 0] 43 (0, 0)) := by rw [← hW]; exact PB
    have PC' : Chg (fun k => k = w.heap.size) w2 W := by rw [← hW]; exact PC
    clear PB PC hW y0 f0 y1 f1 y2 f2 y3 f3 y4 f4 y5 f5 y6 f6 y7 f7
    have z0 : W.cell? ⟨w.heap.size, 0, none⟩ = some (.int .i64 0) := by rw [cellAt PB']; rfl
    have z1 : W.cell? ⟨w.heap.size, 1, none⟩ = some (.int .i64 0) := by rw [cellAt PB']; rfl
    have z2 : W.cell? ⟨w.heap.size, 2, none⟩ = some (.int .i64 0) := by rw [cellAt PB']; rfl
    have z3 : W.cell? ⟨w.heap.size, 3, none⟩ = some (.int .i64 0) := by rw [cellAt PB']; rfl
    have z4 : W.cell? ⟨w.heap.size, 4, none⟩ = some (.int .i64 0) := by rw [cellAt PB']; rfl
    have z5 : W.cell? ⟨w.heap.size, 5, none⟩ = some (.int .i64 0) := by rw [cellAt PB']; rfl
    have z6 : W.cell? ⟨w.heap.size, 6, none⟩ = some (.int .i64 0) := by rw [cellAt PB']; rfl
    have z7 : W.cell? ⟨w.heap.size, 7, none⟩ = some (.slice none 0 0) := by rw [cellAt PB']; rfl
    refine bodyPost_ret (v := .tuple #[.agg #[.int .i64 0, .int .i64 0, .int .i64 0, .int .i64 0, .int .i64 0, .int .i64 0, .int .i64 0, .slice none 0 0], .int .i64 10]) (by simp [results, Try.results26, go_sem, z0, z1, z2, z3, z4, z5, z6, z7]) rfl ?_
    exact ⟨C2.out.trans PC' (fun k hk hl => by subst hk; exact absurd hl (Nat.lt_irrefl _)), .inl ⟨PN.out, rfl⟩⟩
  have hb2 : (n : Int) ≤ 65536 := by omega
  have HB := hid hb
  clear hb
  go_enter Try.func26, Try.ntmps26
  go_wp2_with fail
  rw [← hp, ← hg]
  rw [← hw0]
  clear hw0 hg hp
  refine (message_r (vs := [0, 0, 0, 0, 0, 0, 0]) (tp := 43) H0.out P0.out rfl (by omega) hpg (by intro u hu; simp at hu; subst hu; decide) hn).mono ?_
  rintro e' w1 ⟨rfl, m, A', n', c', hwf, hlog, hblk, hchg, ⟨at', bad', hrd, heq⟩, hll⟩
  have HWF := hid hwf
  have HLOG := hid hlog.bound
  have HBK := hid hblk
  have C1 := hid hchg
  have HRD := hid hrd
  have HEQ := hid heq
  clear hwf hlog hblk hchg hrd heq
  go_wp2_with fail
  refine (whole_any HRD.out (by omega)).mono ?_
  rintro e' w2 ⟨rfl, q, hw2⟩
  have CQ := hid (show Chg (fun _ => False) w1 w2 by rw [hw2]; exact (Chg.refl _ w1).drewN q)
  have CW := hid (show Chg (fun _ => False) w w2 from (C0.out.trans C1.out (fun k hk hl => by rcases hk with hk | hk <;> omega)).trans CQ.out (fun _ h _ => h))
  have BT := hid (CQ.out.blk (C1.out.blk B0.out (fun e => by rcases e with e | e <;> omega)) (fun h => h))
  clear hw2
  by_cases hgo : bad' = false ∧ at' = n
  case neg =>
    have PN := hid (show parseMsg b = none from by
      cases bad' with
      | true => exact parseMsg_bad HEQ.out
      | false =>
        rw [parseMsg_good HEQ.out, if_neg]
        rintro ⟨h1, _⟩
        have h2 := congrArg List.length h1
        have h3 := HRD.out.le
        rw [List.length_drop, HLEN.out] at h2
        have e0 : ([] : List UInt8).length = 0 := rfl
        exact hgo ⟨rfl, by omega⟩)
    rw [show (!bad' && decide (at' = n) && decide (n ≤ 65536)) = false by
      cases bad' with
      | true => rfl
      | false => rw [decide_eq_false (fun e => hgo ⟨rfl, e⟩)]; rfl]
    have C2 := CW
    clear hgo
    have y0 : w2.cell? ⟨w.heap.size, 0, none⟩ = some (.int .i64 0) := (cellAt BT.out 0).trans rfl
    have f0 : w2.frozen? ⟨w.heap.size, 0, none⟩ = false := freeAt BT.out 0
    have y1 : w2.cell? ⟨w.heap.size, 1, none⟩ = some (.int .i64 0) := (cellAt BT.out 1).trans rfl
    have f1 : w2.frozen? ⟨w.heap.size, 1, none⟩ = false := freeAt BT.out 1
    have y2 : w2.cell? ⟨w.heap.size, 2, none⟩ = some (.int .i64 0) := (cellAt BT.out 2).trans rfl
    have f2 : w2.frozen? ⟨w.heap.size, 2, none⟩ = false := freeAt BT.out 2
    have y3 : w2.cell? ⟨w.heap.size, 3, none⟩ = some (.int .i64 0) := (cellAt BT.out 3).trans rfl
    have f3 : w2.frozen? ⟨w.heap.size, 3, none⟩ = false := freeAt BT.out 3
    have y4 : w2.cell? ⟨w.heap.size, 4, none⟩ = some (.int .i64 0) := (cellAt BT.out 4).trans rfl
    have f4 : w2.frozen? ⟨w.heap.size, 4, none⟩ = false := freeAt BT.out 4
    have y5 : w2.cell? ⟨w.heap.size, 5, none⟩ = some (.int .i64 0) := (cellAt BT.out 5).trans rfl
    have f5 : w2.frozen? ⟨w.heap.size, 5, none⟩ = false := freeAt BT.out 5
    have y6 : w2.cell? ⟨w.heap.size, 6, none⟩ = some (.int .i64 0) := (cellAt BT.out 6).trans rfl
    have f6 : w2.frozen? ⟨w.heap.size, 6, none⟩ = false := freeAt BT.out 6
    have y7 : w2.cell? ⟨w.heap.size, 7, none⟩ = some (.slice none 0 0) := (cellAt BT.out 7).trans rfl
    have f7 : w2.frozen? ⟨w.heap.size, 7, none⟩ = false := freeAt BT.out 7
    go_wp2_with fail
    obtain ⟨PB, PC⟩ := put_blk (#[.int .i64 0, .int .i64 0, .int .i64 0, .int .i64 0, .int .i64 0, .int .i64 0, .int .i64 0, .slice none 0 0] : Array Value).toList w2 _ BT.out rfl
    generalize hW : ((((((((w2.setCell ⟨w.heap.size, 0, none⟩ (.int .i64 0)).setCell ⟨w.heap.size, 1, none⟩ (.int .i64 0)).setCell ⟨w.heap.size, 2, none⟩ (.int .i64 0)).setCell ⟨w.heap.size, 3, none⟩ (.int .i64 0)).setCell ⟨w.heap.size, 4, none⟩ (.int .i64 0)).setCell ⟨w.heap.size, 5, none⟩ (.int .i64 0)).setCell ⟨w.heap.size, 6, none⟩ (.int .i64 0)).setCell ⟨w.heap.size, 7, none⟩ (.slice none 0 0)) = W
    have PB' : W.heap[w.heap.size]? = some (.cells #[.int .i64 0, .int .i64 0, .int .i64 0, .int .i64 0, .int .i64 0, .int .i64 0, .int .i64 0, .slice none 0 0] 43 (0, 0)) := by rw [← hW]; exact PB
    have PC' : Chg (fun k => k = w.heap.size) w2 W := by rw [← hW]; exact PC
    clear PB PC hW y0 f0 y1 f1 y2 f2 y3 f3 y4 f4 y5 f5 y6 f6 y7 f7
    have z0 : W.cell? ⟨w.heap.size, 0, none⟩ = some (.int .i64 0) := by rw [cellAt PB']; rfl
    have z1 : W.cell? ⟨w.heap.size, 1, none⟩ = some (.int .i64 0) := by rw [cellAt PB']; rfl
    have z2 : W.cell? ⟨w.heap.size, 2, none⟩ = some (.int .i64 0) := by rw [cellAt PB']; rfl
    have z3 : W.cell? ⟨w.heap.size, 3, none⟩ = some (.int .i64 0) := by rw [cellAt PB']; rfl
    have z4 : W.cell? ⟨w.heap.size, 4, none⟩ = some (.int .i64 0) := by rw [cellAt PB']; rfl
    have z5 : W.cell? ⟨w.heap.size, 5, none⟩ = some (.int .i64 0) := by rw [cellAt PB']; rfl
    have z6 : W.cell? ⟨w.heap.size, 6, none⟩ = some (.int .i64 0) := by rw [cellAt PB']; rfl
    have z7 : W.cell? ⟨w.heap.size, 7, none⟩ = some (.slice none 0 0) := by rw [cellAt PB']; rfl
    refine bodyPost_ret (v := .tuple #[.agg #[.int .i64 0, .int .i64 0, .int .i64 0, .int .i64 0, .int .i64 0, .int .i64 0, .int .i64 0, .slice none 0 0], .int .i64 10]) (by simp [results, Try.results26, go_sem, z0, z1, z2, z3, z4, z5, z6, z7]) rfl ?_
    exact ⟨C2.out.trans PC' (fun k hk hl => by subst hk; exact absurd hl (Nat.lt_irrefl _)), .inl ⟨PN.out, rfl⟩⟩
  obtain ⟨rfl, rfl⟩ := hgo
  rw [decide_eq_true (show at' ≤ 65536 from HB.out), show (!false && decide (at' = at') && true) = true by simp]
  have PG := hid (parseMsg_good HEQ.out)
  have x0 : w2.cell? ⟨p, 0, none⟩ = some (.int .i64 m.kind) := (cellAt (CQ.out.blk HBK.out (fun h => h)) 0).trans rfl
  have x1 : w2.cell? ⟨p, 1, none⟩ = some (.int .i64 m.view) := (cellAt (CQ.out.blk HBK.out (fun h => h)) 1).trans rfl
  have x2 : w2.cell? ⟨p, 2, none⟩ = some (.int .i64 m.src) := (cellAt (CQ.out.blk HBK.out (fun h => h)) 2).trans rfl
  have x3 : w2.cell? ⟨p, 3, none⟩ = some (.int .i64 m.dst) := (cellAt (CQ.out.blk HBK.out (fun h => h)) 3).trans rfl
  have x4 : w2.cell? ⟨p, 4, none⟩ = some (.int .i64 m.op) := (cellAt (CQ.out.blk HBK.out (fun h => h)) 4).trans rfl
  have x5 : w2.cell? ⟨p, 5, none⟩ = some (.int .i64 m.commit) := (cellAt (CQ.out.blk HBK.out (fun h => h)) 5).trans rfl
  have x6 : w2.cell? ⟨p, 6, none⟩ = some (.int .i64 m.normal) := (cellAt (CQ.out.blk HBK.out (fun h => h)) 6).trans rfl
  have x7 : w2.cell? ⟨p, 7, none⟩ = some (.slice A' n' c') := (cellAt (CQ.out.blk HBK.out (fun h => h)) 7).trans rfl
  go_wp2_with fail
  refine (msgright_any (m := m) (HLOG.out.chg CQ.out (fun _ _ h => h))).mono ?_
  rintro e' w3 ⟨rfl, h3⟩
  have CR := hid h3
  have CW3 := hid (CW.out.trans h3 (fun _ h _ => h))
  have BT3 := hid (h3.blk BT.out (fun h => h))
  have BP3 := hid (h3.blk (CQ.out.blk HBK.out (fun h => h)) (fun h => h))
  clear h3 x0 x1 x2 x3 x4 x5 x6 x7
  cases hr : msgR m
  · have PN := hid (show parseMsg b = none from by rw [PG.out, if_neg]; rintro ⟨_, _, h⟩; rw [hr] at h; cases h)
    clear hr
    have BT := BT3
    have C2 := CW3
    have y0 : w3.cell? ⟨w.heap.size, 0, none⟩ = some (.int .i64 0) := (cellAt BT3.out 0).trans rfl
    have f0 : w3.frozen? ⟨w.heap.size, 0, none⟩ = false := freeAt BT3.out 0
    have y1 : w3.cell? ⟨w.heap.size, 1, none⟩ = some (.int .i64 0) := (cellAt BT3.out 1).trans rfl
    have f1 : w3.frozen? ⟨w.heap.size, 1, none⟩ = false := freeAt BT3.out 1
    have y2 : w3.cell? ⟨w.heap.size, 2, none⟩ = some (.int .i64 0) := (cellAt BT3.out 2).trans rfl
    have f2 : w3.frozen? ⟨w.heap.size, 2, none⟩ = false := freeAt BT3.out 2
    have y3 : w3.cell? ⟨w.heap.size, 3, none⟩ = some (.int .i64 0) := (cellAt BT3.out 3).trans rfl
    have f3 : w3.frozen? ⟨w.heap.size, 3, none⟩ = false := freeAt BT3.out 3
    have y4 : w3.cell? ⟨w.heap.size, 4, none⟩ = some (.int .i64 0) := (cellAt BT3.out 4).trans rfl
    have f4 : w3.frozen? ⟨w.heap.size, 4, none⟩ = false := freeAt BT3.out 4
    have y5 : w3.cell? ⟨w.heap.size, 5, none⟩ = some (.int .i64 0) := (cellAt BT3.out 5).trans rfl
    have f5 : w3.frozen? ⟨w.heap.size, 5, none⟩ = false := freeAt BT3.out 5
    have y6 : w3.cell? ⟨w.heap.size, 6, none⟩ = some (.int .i64 0) := (cellAt BT3.out 6).trans rfl
    have f6 : w3.frozen? ⟨w.heap.size, 6, none⟩ = false := freeAt BT3.out 6
    have y7 : w3.cell? ⟨w.heap.size, 7, none⟩ = some (.slice none 0 0) := (cellAt BT3.out 7).trans rfl
    have f7 : w3.frozen? ⟨w.heap.size, 7, none⟩ = false := freeAt BT3.out 7
    go_wp2_with fail
    obtain ⟨PB, PC⟩ := put_blk (#[.int .i64 0, .int .i64 0, .int .i64 0, .int .i64 0, .int .i64 0, .int .i64 0, .int .i64 0, .slice none 0 0] : Array Value).toList w3 _ BT.out rfl
    generalize hW : ((((((((w3.setCell ⟨w.heap.size, 0, none⟩ (.int .i64 0)).setCell ⟨w.heap.size, 1, none⟩ (.int .i64 0)).setCell ⟨w.heap.size, 2, none⟩ (.int .i64 0)).setCell ⟨w.heap.size, 3, none⟩ (.int .i64 0)).setCell ⟨w.heap.size, 4, none⟩ (.int .i64 0)).setCell ⟨w.heap.size, 5, none⟩ (.int .i64 0)).setCell ⟨w.heap.size, 6, none⟩ (.int .i64 0)).setCell ⟨w.heap.size, 7, none⟩ (.slice none 0 0)) = W
    have PB' : W.heap[w.heap.size]? = some (.cells #[.int .i64 0, .int .i64 0, .int .i64 0, .int .i64 0, .int .i64 0, .int .i64 0, .int .i64 0, .slice none 0 0] 43 (0, 0)) := by rw [← hW]; exact PB
    have PC' : Chg (fun k => k = w.heap.size) w3 W := by rw [← hW]; exact PC
    clear PB PC hW y0 f0 y1 f1 y2 f2 y3 f3 y4 f4 y5 f5 y6 f6 y7 f7
    have z0 : W.cell? ⟨w.heap.size, 0, none⟩ = some (.int .i64 0) := by rw [cellAt PB']; rfl
    have z1 : W.cell? ⟨w.heap.size, 1, none⟩ = some (.int .i64 0) := by rw [cellAt PB']; rfl
    have z2 : W.cell? ⟨w.heap.size, 2, none⟩ = some (.int .i64 0) := by rw [cellAt PB']; rfl
    have z3 : W.cell? ⟨w.heap.size, 3, none⟩ = some (.int .i64 0) := by rw [cellAt PB']; rfl
    have z4 : W.cell? ⟨w.heap.size, 4, none⟩ = some (.int .i64 0) := by rw [cellAt PB']; rfl
    have z5 : W.cell? ⟨w.heap.size, 5, none⟩ = some (.int .i64 0) := by rw [cellAt PB']; rfl
    have z6 : W.cell? ⟨w.heap.size, 6, none⟩ = some (.int .i64 0) := by rw [cellAt PB']; rfl
    have z7 : W.cell? ⟨w.heap.size, 7, none⟩ = some (.slice none 0 0) := by rw [cellAt PB']; rfl
    refine bodyPost_ret (v := .tuple #[.agg #[.int .i64 0, .int .i64 0, .int .i64 0, .int .i64 0, .int .i64 0, .int .i64 0, .int .i64 0, .slice none 0 0], .int .i64 10]) (by simp [results, Try.results26, go_sem, z0, z1, z2, z3, z4, z5, z6, z7]) rfl ?_
    exact ⟨C2.out.trans PC' (fun k hk hl => by subst hk; exact absurd hl (Nat.lt_irrefl _)), .inl ⟨PN.out, rfl⟩⟩
  have PY := hid (show parseMsg b = some m from by rw [PG.out, if_pos ⟨by rw [List.drop_eq_nil_of_le (by rw [HLEN.out]; exact Nat.le_refl _)], by rw [HLEN.out]; exact HB.out, hr⟩])
  clear hr
  have y0 : w3.cell? ⟨w.heap.size, 0, none⟩ = some (.int .i64 0) := (cellAt BT3.out 0).trans rfl
  have f0 : w3.frozen? ⟨w.heap.size, 0, none⟩ = false := freeAt BT3.out 0
  have y1 : w3.cell? ⟨w.heap.size, 1, none⟩ = some (.int .i64 0) := (cellAt BT3.out 1).trans rfl
  have f1 : w3.frozen? ⟨w.heap.size, 1, none⟩ = false := freeAt BT3.out 1
  have y2 : w3.cell? ⟨w.heap.size, 2, none⟩ = some (.int .i64 0) := (cellAt BT3.out 2).trans rfl
  have f2 : w3.frozen? ⟨w.heap.size, 2, none⟩ = false := freeAt BT3.out 2
  have y3 : w3.cell? ⟨w.heap.size, 3, none⟩ = some (.int .i64 0) := (cellAt BT3.out 3).trans rfl
  have f3 : w3.frozen? ⟨w.heap.size, 3, none⟩ = false := freeAt BT3.out 3
  have y4 : w3.cell? ⟨w.heap.size, 4, none⟩ = some (.int .i64 0) := (cellAt BT3.out 4).trans rfl
  have f4 : w3.frozen? ⟨w.heap.size, 4, none⟩ = false := freeAt BT3.out 4
  have y5 : w3.cell? ⟨w.heap.size, 5, none⟩ = some (.int .i64 0) := (cellAt BT3.out 5).trans rfl
  have f5 : w3.frozen? ⟨w.heap.size, 5, none⟩ = false := freeAt BT3.out 5
  have y6 : w3.cell? ⟨w.heap.size, 6, none⟩ = some (.int .i64 0) := (cellAt BT3.out 6).trans rfl
  have f6 : w3.frozen? ⟨w.heap.size, 6, none⟩ = false := freeAt BT3.out 6
  have y7 : w3.cell? ⟨w.heap.size, 7, none⟩ = some (.slice none 0 0) := (cellAt BT3.out 7).trans rfl
  have f7 : w3.frozen? ⟨w.heap.size, 7, none⟩ = false := freeAt BT3.out 7
  have x0 : w3.cell? ⟨p, 0, none⟩ = some (.int .i64 m.kind) := (cellAt BP3.out 0).trans rfl
  have x1 : w3.cell? ⟨p, 1, none⟩ = some (.int .i64 m.view) := (cellAt BP3.out 1).trans rfl
  have x2 : w3.cell? ⟨p, 2, none⟩ = some (.int .i64 m.src) := (cellAt BP3.out 2).trans rfl
  have x3 : w3.cell? ⟨p, 3, none⟩ = some (.int .i64 m.dst) := (cellAt BP3.out 3).trans rfl
  have x4 : w3.cell? ⟨p, 4, none⟩ = some (.int .i64 m.op) := (cellAt BP3.out 4).trans rfl
  have x5 : w3.cell? ⟨p, 5, none⟩ = some (.int .i64 m.commit) := (cellAt BP3.out 5).trans rfl
  have x6 : w3.cell? ⟨p, 6, none⟩ = some (.int .i64 m.normal) := (cellAt BP3.out 6).trans rfl
  have x7 : w3.cell? ⟨p, 7, none⟩ = some (.slice A' n' c') := (cellAt BP3.out 7).trans rfl
  go_wp2_with fail
  obtain ⟨PB, PC⟩ := put_blk (msgCells m A' n' c') w3 _ BT3.out rfl
  generalize hW : ((((((((w3.setCell ⟨w.heap.size, 0, none⟩ (.int .i64 m.kind)).setCell ⟨w.heap.size, 1, none⟩ (.int .i64 m.view)).setCell ⟨w.heap.size, 2, none⟩ (.int .i64 m.src)).setCell ⟨w.heap.size, 3, none⟩ (.int .i64 m.dst)).setCell ⟨w.heap.size, 4, none⟩ (.int .i64 m.op)).setCell ⟨w.heap.size, 5, none⟩ (.int .i64 m.commit)).setCell ⟨w.heap.size, 6, none⟩ (.int .i64 m.normal)).setCell ⟨w.heap.size, 7, none⟩ (.slice A' n' c')) = W
  have PB' : W.heap[w.heap.size]? = some (.cells (msgCells m A' n' c').toArray 43 (0, 0)) := by rw [← hW]; exact PB
  have PC' : Chg (fun k => k = w.heap.size) w3 W := by rw [← hW]; exact PC
  clear PB PC hW
  have z0 : W.cell? ⟨w.heap.size, 0, none⟩ = some (.int .i64 m.kind) := by rw [cellAt PB']; rfl
  have z1 : W.cell? ⟨w.heap.size, 1, none⟩ = some (.int .i64 m.view) := by rw [cellAt PB']; rfl
  have z2 : W.cell? ⟨w.heap.size, 2, none⟩ = some (.int .i64 m.src) := by rw [cellAt PB']; rfl
  have z3 : W.cell? ⟨w.heap.size, 3, none⟩ = some (.int .i64 m.dst) := by rw [cellAt PB']; rfl
  have z4 : W.cell? ⟨w.heap.size, 4, none⟩ = some (.int .i64 m.op) := by rw [cellAt PB']; rfl
  have z5 : W.cell? ⟨w.heap.size, 5, none⟩ = some (.int .i64 m.commit) := by rw [cellAt PB']; rfl
  have z6 : W.cell? ⟨w.heap.size, 6, none⟩ = some (.int .i64 m.normal) := by rw [cellAt PB']; rfl
  have z7 : W.cell? ⟨w.heap.size, 7, none⟩ = some (.slice A' n' c') := by rw [cellAt PB']; rfl
  refine bodyPost_ret (v := .tuple #[.agg #[.int .i64 m.kind, .int .i64 m.view, .int .i64 m.src, .int .i64 m.dst, .int .i64 m.op, .int .i64 m.commit, .int .i64 m.normal, .slice A' n' c'], .int .i64 0]) (by simp [results, Try.results26, go_sem, z0, z1, z2, z3, z4, z5, z6, z7]) rfl ?_
  have s0 := C0.out.size
  have sl := lt_of_blk B0.out
  exact ⟨CW3.out.trans PC' (fun k hk hl => by subst hk; exact absurd hl (Nat.lt_irrefl _)), .inr ⟨m, A', n', c', PY.out, rfl, HWF.out, ((((HLOG.out.chg CQ.out (fun _ _ h => h)).chg CR.out (fun _ _ h => h)).chg PC' (fun k hk e => by have q1 : w0.heap.size ≤ k := hk.1; omega)).mono (fun k hk => Nat.le_trans s0 hk.1))⟩⟩
end Go.Proofs.Ytcmfgijdelaelaa.Pa
