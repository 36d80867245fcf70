
/- What the statements make of a delta and of entries. -/

import Derived.Test.YtcmfgijdelaelaaPackX

namespace Go.Proofs.Ytcmfgijdelaelaa.Pa

set_option linter.unusedVariables false

set_option linter.unusedSimpArgs false

open Go.RowKit Go.Proofs.Ytcmfgijdelaelaa.C

attribute [local go_sem] max2_int min2_int max_two min_two

theorem infoRule2 : (Try.prog.info? 100).map (fun i => (i.zero, i.size, i.bytes)) = some (some (.agg #[.int .i64 0, .int .i64 0, .int .i64 0, .int .i64 0, .string ByteArray.empty]), 5, 48) := by kernel_rfl
theorem infoEntry2 : (Try.prog.info? 70).map (fun i => (i.zero, i.size, i.bytes)) = some (some (.agg #[.int .i64 0, .int .i64 0, .int .i64 0, .int .i64 0, .int .i64 0, .int .i64 0, .int .i64 0, .slice none 0 0, .slice none 0 0]), 9, 104) := by kernel_rfl
def MadeDelta (e : Entry) (A2 : Option Addr) (n2 c2 : Nat) (w : World) (e' : Ending) (w' : World) : Prop :=
  ∃ A' c', e' = .returned (.agg #[.int .i64 e.dflt, .int .i64 e.closed, .int .i64 e.fuel, .int .i64 e.stack, .slice A' e.put.length c', .slice A2 n2 c2]) ∧ Ty.At ruleK w' (fun k => w.heap.size ≤ k) A' e.put.length c' e.put ∧ Chg (fun _ => False) w w'
set_option maxHeartbeats 4000000 in
set_option maxRecDepth 100000 in
theorem delta_any {w : World} {R : Nat → Prop} {e : Entry} {A1 : Option Addr} {n1 c1 : Nat} {A2 : Option Addr} {n2 c2 : Nat} (he : EntryAt w R e A1 n1 c1 A2 n2 c2) (hn : n1 ≤ 1000000) :
    Calls Try.prog 48 #[.agg #[.int .i64 e.dflt, .int .i64 e.closed, .int .i64 e.fuel, .int .i64 e.stack, .slice A1 n1 c1, .slice A2 n2 c2]] w (MadeDelta e A2 n2 c2 w) := by
  have L1 := hid he.2.1.1
  have hn2 : (n1 : Int) ≤ 1000000 := by omega
  obtain ⟨p, hp⟩ : ∃ p, p = w.heap.size + 1 + 1 := ⟨_, rfl⟩
  obtain ⟨t, ht⟩ : ∃ t, t = w.heap.size + 1 := ⟨_, rfl⟩
  obtain ⟨w0, hw0⟩ : ∃ w0, w0 = ((w.alloc (.cells #[.int .i64 e.dflt, .int .i64 e.closed, .int .i64 e.fuel, .int .i64 e.stack, .slice A1 n1 c1, .slice A2 n2 c2] 63)).alloc (.cells #[.int .i64 0, .int .i64 0, .int .i64 0, .int .i64 0, .slice none 0 0, .slice none 0 0] 68)).alloc (.cells #[.int .i64 e.dflt, .int .i64 e.closed, .int .i64 e.fuel, .int .i64 e.stack, .slice none 0 0, .slice A2 n2 c2] 68) := ⟨_, rfl⟩
  have C0 := hid (show Chg (fun _ => False) w w0 by rw [hw0]; exact (((Chg.refl _ w).alloc _).alloc _).alloc _)
  have B0 := hid (show w0.heap[w.heap.size]? = some (.cells #[.int .i64 e.dflt, .int .i64 e.closed, .int .i64 e.fuel, .int .i64 e.stack, .slice A1 n1 c1, .slice A2 n2 c2] 63 (0, 0)) by rw [hw0]; exact blk_alloc (blk_alloc (blk_new w _) _) _)
  have T0 := hid (show w0.heap[t]? = some (.cells #[.int .i64 0, .int .i64 0, .int .i64 0, .int .i64 0, .slice none 0 0, .slice none 0 0] 68 (0, 0)) by
    rw [hw0, ht]
    refine blk_alloc ?_ _
    have := blk_new (w.alloc (.cells #[.int .i64 e.dflt, .int .i64 e.closed, .int .i64 e.fuel, .int .i64 e.stack, .slice A1 n1 c1, .slice A2 n2 c2] 63)) (.cells #[.int .i64 0, .int .i64 0, .int .i64 0, .int .i64 0, .slice none 0 0, .slice none 0 0] 68)
    simpa using this)
  have P0 := hid (show w0.heap[p]? = some (.cells #[.int .i64 e.dflt, .int .i64 e.closed, .int .i64 e.fuel, .int .i64 e.stack, .slice none 0 0, .slice A2 n2 c2] 68 (0, 0)) by
    rw [hw0, hp]
    have := blk_new ((w.alloc (.cells #[.int .i64 e.dflt, .int .i64 e.closed, .int .i64 e.fuel, .int .i64 e.stack, .slice A1 n1 c1, .slice A2 n2 c2] 63)).alloc (.cells #[.int .i64 0, .int .i64 0, .int .i64 0, .int .i64 0, .slice none 0 0, .slice none 0 0] 68)) (.cells #[.int .i64 e.dflt, .int .i64 e.closed, .int .i64 e.fuel, .int .i64 e.stack, .slice none 0 0, .slice A2 n2 c2] 68)
    simpa using this)
  have HPUT := hid (he.2.1.bound.chg C0.out (fun _ _ h => h))
  have htp : t ≠ p := by omega
  have hwt : w.heap.size < t := by omega
  have hwp : w.heap.size < p := by omega
  have hpl : p < w0.heap.size := lt_of_blk P0.out
  have x4 : w0.cell? ⟨w.heap.size, 4, none⟩ = some (.slice A1 n1 c1) := (cellAt B0.out 4).trans rfl
  have HP := hid hp
  have HTT := hid ht
  clear he
  go_enter Try.func48, Try.ntmps48
  go_wp2_with fail
  rw [← hp, ← ht, ← hw0]
  clear hw0 x4 hp ht
  go_loopw [20] (fun i wr => ∃ (k : Nat) (A' : Option Addr) (c' : Nat), k ≤ n1 ∧ i = .int .i64 k ∧ wr.heap[p]? = some (.cells #[.int .i64 e.dflt, .int .i64 e.closed, .int .i64 e.fuel, .int .i64 e.stack, .slice A' k c', .slice A2 n2 c2] 68 (0, 0)) ∧ Vec ruleK 100 wr (fun k => w0.heap.size ≤ k) (fun _ => False) (.slice A' k c') (e.put.take k) ∧ Chg (fun k => k = p) w0 wr) (fun i _ => n1 - (intOf i).toNat)
  case atStart => exact ⟨0, none, 0, Nat.zero_le _, rfl, P0.out, Vec.nil _ _ _ _ _, Chg.refl _ _⟩
  case round =>
    obtain ⟨k, A', c', hk, rfl, hB, hV, hC⟩ := hrel
    have HB := hid hB
    have HV := hid hV
    have HC := hid hC
    clear hB hV hC
    by_cases hlt : k < n1
    · have hlt2 : (k : Int) < (n1 : Int) := by omega
      obtain ⟨r, hr⟩ : ∃ r, e.put[k]? = some r := ⟨_, List.getElem?_eq_getElem (by have := L1.out; omega)⟩
      obtain ⟨a, cs, ha, haR, hK, hcs⟩ := HPUT.out.get (by decide) hr
      obtain ⟨rfl, hrw⟩ := rule_open hK
      subst ha
      have hcs2 : ∀ j u, (ruleCells r)[j]? = some u → wr.cell? (a.add (k * 5 + j)) = some u := fun j u hj => HC.out.cell (hcs j u hj) (by rw [add_block]; intro h; have := haR.2; omega)
      have x0 := elem_cell0 hcs2 _ rfl
      have x1 := elem_cell hcs2 0 _ rfl
      have x2 := elem_cell hcs2 1 _ rfl
      have x3 := elem_cell hcs2 2 _ rfl
      have x4 := elem_cell hcs2 3 _ rfl
      have HRW := hid hrw
      have HTK := hid (show e.put.take (k + 1) = e.put.take k ++ [r] by rw [List.take_add_one, hr]; rfl)
      have HKL := hid (show (e.put.take k).length = k by rw [List.length_take]; have := L1.out; omega)
      have C1 := hid (show Chg (fun _ => False) wr (wr.alloc (.cells #[.int .i64 r.id, .int .i64 r.pri, .int .i64 r.act, .int .i64 r.scope, .string r.pat] 72)) from (Chg.refl _ wr).alloc _)
      have y4 : (wr.alloc (.cells #[.int .i64 r.id, .int .i64 r.pri, .int .i64 r.act, .int .i64 r.scope, .string r.pat] 72)).cell? ⟨p, 4, none⟩ = some (.slice A' k c') := C1.out.cell ((cellAt HB.out 4).trans rfl) (fun h => h)
      have C2 := hid (show Chg (fun _ => False) wr ((wr.alloc (.cells #[.int .i64 r.id, .int .i64 r.pri, .int .i64 r.act, .int .i64 r.scope, .string r.pat] 72)).alloc (.cells #[.int .i64 r.id, .int .i64 r.pri, .int .i64 r.act, .int .i64 r.scope, .string r.pat] 100)) from C1.out.alloc _)
      have HV2 := hid (HV.out.chg C2.out (fun _ _ h => h) (fun _ h => h.elim))
      have HB2 := hid (C2.out.blk HB.out (fun h => h))
      have NS := hid (show Sees ((wr.alloc (.cells #[.int .i64 r.id, .int .i64 r.pri, .int .i64 r.act, .int .i64 r.scope, .string r.pat] 72)).alloc (.cells #[.int .i64 r.id, .int .i64 r.pri, .int .i64 r.act, .int .i64 r.scope, .string r.pat] 100)) (fun k => k = wr.heap.size + 1) (some ⟨wr.heap.size + 1, 0, none⟩) (Array.toList #[.int .i64 r.id, .int .i64 r.pri, .int .i64 r.act, .int .i64 r.scope, .string r.pat]) from by
        have := new_sees (wr.alloc (.cells #[.int .i64 r.id, .int .i64 r.pri, .int .i64 r.act, .int .i64 r.scope, .string r.pat] 72)) #[.int .i64 r.id, .int .i64 r.pri, .int .i64 r.act, .int .i64 r.scope, .string r.pat] 100
        simpa using this)
      have HOP := hid (show (Value.slice A' k c').ownBlock ≠ some p from fun e => by have := HV.out.inS p e; omega)
      clear hcs hK hcs2 hr haR hrw
      go_wp2_with (first | (at_builtin; refine vec_list (d := ruleK) _ rfl (.tmp 25) (.tmp 27) 66 100 (.agg #[.int .i64 0, .int .i64 0, .int .i64 0, .int .i64 0, .string ByteArray.empty]) 48 rfl Try.underlying66 infoRule2 rfl (by decide) (by decide) (.slice A' k c') rfl HV2.out (some ⟨wr.heap.size + 1, 0, none⟩) 1 1 (ys := [r]) rfl (by simp) (by omega) rfl NS.out (Ty.Row.one_ (rule_shut HRW.out)) (by rw [HKL.out]; omega) ?_; rw [HKL.out, ← HTK.out]; intro A4 c4 w4 h1 h2; have G1 := hid h1; have G2 := hid h2; clear h1 h2; have cp : w4.cell? ⟨p, 4, none⟩ = some (.slice A' k c') := (cellAt (G2.out.blk HB2.out HOP.out) 4).trans rfl; have fp : w4.frozen? ⟨p, 4, none⟩ = false := freeAt (G2.out.blk HB2.out HOP.out) 4))
      have HBN := hid (show (w4.setCell ⟨p, 4, none⟩ (.slice A4 (k + 1) c4)).heap[p]? = some (.cells #[.int .i64 e.dflt, .int .i64 e.closed, .int .i64 e.fuel, .int .i64 e.stack, .slice A4 (k + 1) c4, .slice A2 n2 c2] 68 (0, 0)) from blk_set (G2.out.blk HB2.out HOP.out) 4 _)
      have HVG := hid (G1.out.mono (S' := fun k => w0.heap.size ≤ k) (D' := fun _ => False) (fun j h _ => by rcases h with h | h; exact h; exact Nat.le_trans (Nat.le_trans HC.out.size C2.out.size) h) (fun _ h _ => h))
      have HVN := hid (HVG.out.chg (chg_at p 4 (.slice A4 (k + 1) c4) w4) (fun j hj e => by have := HVG.out.inS j hj; omega) (fun _ h => h.elim))
      have HCN := hid (show Chg (fun k => k = p) w0 (w4.setCell ⟨p, 4, none⟩ (.slice A4 (k + 1) c4)) from ((HC.out.trans C2.out (fun _ h _ => h.elim)).trans G2.out (fun j hj hl => by have := HV.out.inS j hj; omega)).trans (chg_at p 4 _ w4) (fun _ h _ => h))
      clear G1 G2 HB2 NS HV2 C1 C2 HVG
      go_roundw
      case measure => simp [intOf]; omega
      case rel => first | exact ⟨k + 1, A4, c4, hlt, by go_num, HBN.out, HVN.out, HCN.out⟩ | ((repeat apply Exists.intro); exact ⟨⟨k + 1, A4, c4, hlt, by go_num, HBN.out, HVN.out, HCN.out⟩, rfl⟩)
    · have hkn : ¬ (k : Int) < (n1 : Int) := by omega
      obtain rfl : k = n1 := by omega
      have BT := hid (HC.out.blk T0.out htp)
      have p0 : wr.cell? ⟨p, 0, none⟩ = some (.int .i64 e.dflt) := (cellAt HB.out 0).trans rfl
      have t0 : wr.cell? ⟨t, 0, none⟩ = some (.int .i64 0) := (cellAt BT.out 0).trans rfl
      have ft0 : wr.frozen? ⟨t, 0, none⟩ = false := freeAt BT.out 0
      have p1 : wr.cell? ⟨p, 1, none⟩ = some (.int .i64 e.closed) := (cellAt HB.out 1).trans rfl
      have t1 : wr.cell? ⟨t, 1, none⟩ = some (.int .i64 0) := (cellAt BT.out 1).trans rfl
      have ft1 : wr.frozen? ⟨t, 1, none⟩ = false := freeAt BT.out 1
      have p2 : wr.cell? ⟨p, 2, none⟩ = some (.int .i64 e.fuel) := (cellAt HB.out 2).trans rfl
      have t2 : wr.cell? ⟨t, 2, none⟩ = some (.int .i64 0) := (cellAt BT.out 2).trans rfl
      have ft2 : wr.frozen? ⟨t, 2, none⟩ = false := freeAt BT.out 2
      have p3 : wr.cell? ⟨p, 3, none⟩ = some (.int .i64 e.stack) := (cellAt HB.out 3).trans rfl
      have t3 : wr.cell? ⟨t, 3, none⟩ = some (.int .i64 0) := (cellAt BT.out 3).trans rfl
      have ft3 : wr.frozen? ⟨t, 3, none⟩ = false := freeAt BT.out 3
      have p4 : wr.cell? ⟨p, 4, none⟩ = some (.slice A' k c') := (cellAt HB.out 4).trans rfl
      have t4 : wr.cell? ⟨t, 4, none⟩ = some (.slice none 0 0) := (cellAt BT.out 4).trans rfl
      have ft4 : wr.frozen? ⟨t, 4, none⟩ = false := freeAt BT.out 4
      have p5 : wr.cell? ⟨p, 5, none⟩ = some (.slice A2 n2 c2) := (cellAt HB.out 5).trans rfl
      have t5 : wr.cell? ⟨t, 5, none⟩ = some (.slice none 0 0) := (cellAt BT.out 5).trans rfl
      have ft5 : wr.frozen? ⟨t, 5, none⟩ = false := freeAt BT.out 5
      go_wp2_with fail
      obtain ⟨PB, PC⟩ := put_blk [Value.int .i64 e.dflt, Value.int .i64 e.closed, Value.int .i64 e.fuel, Value.int .i64 e.stack, Value.slice A' k c', Value.slice A2 n2 c2] wr _ BT.out rfl
      generalize hW : ((((((wr.setCell ⟨t, 0, none⟩ (.int .i64 e.dflt)).setCell ⟨t, 1, none⟩ (.int .i64 e.closed)).setCell ⟨t, 2, none⟩ (.int .i64 e.fuel)).setCell ⟨t, 3, none⟩ (.int .i64 e.stack)).setCell ⟨t, 4, none⟩ (.slice A' k c')).setCell ⟨t, 5, none⟩ (.slice A2 n2 c2)) = W
      have PB' : W.heap[t]? = some (.cells #[.int .i64 e.dflt, .int .i64 e.closed, .int .i64 e.fuel, .int .i64 e.stack, .slice A' k c', .slice A2 n2 c2] 68 (0, 0)) := by rw [← hW]; exact PB
      have PC' : Chg (fun k => k = t) wr W := by rw [← hW]; exact PC
      clear PB PC hW p0 t0 ft0 p1 t1 ft1 p2 t2 ft2 p3 t3 ft3 p4 t4 ft4 p5 t5 ft5
      have z0 : W.cell? ⟨t, 0, none⟩ = some (.int .i64 e.dflt) := (cellAt PB' 0).trans rfl
      have z1 : W.cell? ⟨t, 1, none⟩ = some (.int .i64 e.closed) := (cellAt PB' 1).trans rfl
      have z2 : W.cell? ⟨t, 2, none⟩ = some (.int .i64 e.fuel) := (cellAt PB' 2).trans rfl
      have z3 : W.cell? ⟨t, 3, none⟩ = some (.int .i64 e.stack) := (cellAt PB' 3).trans rfl
      have z4 : W.cell? ⟨t, 4, none⟩ = some (.slice A' k c') := (cellAt PB' 4).trans rfl
      have z5 : W.cell? ⟨t, 5, none⟩ = some (.slice A2 n2 c2) := (cellAt PB' 5).trans rfl
      refine bodyPost_ret (v := .agg #[.int .i64 e.dflt, .int .i64 e.closed, .int .i64 e.fuel, .int .i64 e.stack, .slice A' k c', .slice A2 n2 c2]) (by simp [results, Try.results48, go_sem, z0, z1, z2, z3, z4, z5]) rfl ?_
      have s0 := C0.out.size
      have hv := HV.out
      rw [List.take_of_length_le (by have := L1.out; omega)] at hv
      have l1 := L1.out
      have tl := lt_of_blk T0.out
      refine ⟨A', c', by rw [← l1], ?_, ((C0.out.trans HC.out (fun k hk hl => by omega)).trans PC' (fun k hk hl => by omega))⟩
      rw [← l1]
      exact (hv.chg PC' (fun j hj e => by have := hv.inS j hj; omega) (fun _ h => h.elim)).at.mono (fun k hk => by rcases hk with hk | hk; exact Nat.le_trans s0 hk; exact hk.elim)
end Go.Proofs.Ytcmfgijdelaelaa.Pa
