/- The walk of the law PackReads. -/
import Derived.Test.YtcmfgijdelaelaaPackAn
namespace Go.Proofs.Ytcmfgijdelaelaa.Pa
set_option linter.unusedVariables false
set_option linter.unusedSimpArgs false
open Go.RowKit Go.Proofs.Ytcmfgijdelaelaa.C
attribute [local go_sem] max2_int min2_int max_two min_two

theorem opens3 : Opens Try.prog 3 (Ty.int .i64) := opens_int Try.underlying3 (by kernel_rfl)
theorem opens5 : Opens Try.prog 5 Ty.u8 := opens_u8 Try.underlying5 (by kernel_rfl)
theorem opensB : Opens Try.prog 25 (Ty.slice Ty.u8) := opens_slice Try.underlying25 (by kernel_rfl) opens5 (by decide)

set_option maxHeartbeats 4000000 in
set_option maxRecDepth 100000 in
theorem PackReads_walk (w : World) (A : Option Addr) (n c : Nat) (b : List UInt8) (h : Ty.At Ty.u8 w (fun k => k < w.heap.size) A n c b) :
    Calls Try.prog 6 #[.slice A n c] w fun e w' => e = .returned (.bool true) ∧ Below w.heap.size w w' := by
  have H := hid h
  have LN := hid h.1
  have hfin : ∀ {w' : World}, Chg (fun _ => False) w w' → Below w.heap.size w w' := fun hc => hc.below (Nat.le_refl _) (fun _ h => h.elim)
  have HFIN := hid (fun (w' : World) (hc : Chg (fun _ => False) w w') => hfin hc)
  clear h hfin
  by_cases h3 : 3000 < n
  · have h3' : (3000 : Int) < (n : Int) := by omega
    clear h3
    go_enter Try.func6, Try.ntmps6
    go_wp2_with fail
    refine (anchor_any w).mono ?_
    rintro e w1 ⟨rfl, h1⟩
    have C1 := hid h1
    clear h1
    go_wp2_with fail
    go_ret
    exact ⟨rfl, HFIN.out _ C1.out⟩
  have h3' : ¬ (3000 : Int) < (n : Int) := by omega
  go_enter Try.func6, Try.ntmps6
  go_wp2_with fail
  refine (anchor_any w).mono ?_
  rintro e w1 ⟨rfl, h1⟩
  have C1 := hid h1
  clear h1
  go_wp2_with fail
  refine (decode_any (H.out.chg C1.out (fun _ _ h => h)) (by omega)).mono ?_
  rintro e w2 ⟨hc2, hd⟩
  have C2 := hid (C1.out.trans hc2 (fun _ h _ => h))
  rcases hd with ⟨hp, rfl⟩ | ⟨m, A2, n2, c2, hp, rfl, hwf, hlog⟩
  · have HP := hid hp
    have CA := hid (show Chg (fun _ => False) w (w2.alloc (.cells #[.int .i64 0, .int .i64 0, .int .i64 0, .int .i64 0, .int .i64 0, .int .i64 0, .int .i64 0, .slice none 0 0] 43)) from C2.out.alloc _)
    have BA := hid (blk_new w2 (.cells #[.int .i64 0, .int .i64 0, .int .i64 0, .int .i64 0, .int .i64 0, .int .i64 0, .int .i64 0, .slice none 0 0] 43))
    clear hc2 hp
    go_wp2_with fail
    refine (parsemsg_any (H.out.chg CA.out (fun _ _ h => h)) (by omega)).mono ?_
    rintro e w3 ⟨m', A3, n3, c3, ok, rfl, hq, _, _, hc3⟩
    rw [← parseMsg_eq, HP.out] at hq
    obtain rfl : ok = false := by
      cases ok with
      | false => rfl
      | true => simp at hq
    have CB := hid ((CA.out.trans hc3 (fun _ h _ => h)).alloc (.cells #[.int .i64 m'.kind, .int .i64 m'.view, .int .i64 m'.src, .int .i64 m'.dst, .int .i64 m'.op, .int .i64 m'.commit, .int .i64 m'.normal, .slice A3 n3 c3] 47))
    have BB := hid (blk_alloc (hc3.blk BA.out (fun h => h)) (.cells #[.int .i64 m'.kind, .int .i64 m'.view, .int .i64 m'.src, .int .i64 m'.dst, .int .i64 m'.op, .int .i64 m'.commit, .int .i64 m'.normal, .slice A3 n3 c3] 47))
    clear hc3 hq
    have z0 : (w3.alloc (.cells #[.int .i64 m'.kind, .int .i64 m'.view, .int .i64 m'.src, .int .i64 m'.dst, .int .i64 m'.op, .int .i64 m'.commit, .int .i64 m'.normal, .slice A3 n3 c3] 47)).cell? ⟨w2.heap.size, 0, none⟩ = some (.int .i64 0) := (cellAt BB.out 0).trans rfl
    have z1 : (w3.alloc (.cells #[.int .i64 m'.kind, .int .i64 m'.view, .int .i64 m'.src, .int .i64 m'.dst, .int .i64 m'.op, .int .i64 m'.commit, .int .i64 m'.normal, .slice A3 n3 c3] 47)).cell? ⟨w2.heap.size, 1, none⟩ = some (.int .i64 0) := (cellAt BB.out 1).trans rfl
    have z2 : (w3.alloc (.cells #[.int .i64 m'.kind, .int .i64 m'.view, .int .i64 m'.src, .int .i64 m'.dst, .int .i64 m'.op, .int .i64 m'.commit, .int .i64 m'.normal, .slice A3 n3 c3] 47)).cell? ⟨w2.heap.size, 2, none⟩ = some (.int .i64 0) := (cellAt BB.out 2).trans rfl
    have z3 : (w3.alloc (.cells #[.int .i64 m'.kind, .int .i64 m'.view, .int .i64 m'.src, .int .i64 m'.dst, .int .i64 m'.op, .int .i64 m'.commit, .int .i64 m'.normal, .slice A3 n3 c3] 47)).cell? ⟨w2.heap.size, 3, none⟩ = some (.int .i64 0) := (cellAt BB.out 3).trans rfl
    have z4 : (w3.alloc (.cells #[.int .i64 m'.kind, .int .i64 m'.view, .int .i64 m'.src, .int .i64 m'.dst, .int .i64 m'.op, .int .i64 m'.commit, .int .i64 m'.normal, .slice A3 n3 c3] 47)).cell? ⟨w2.heap.size, 4, none⟩ = some (.int .i64 0) := (cellAt BB.out 4).trans rfl
    have z5 : (w3.alloc (.cells #[.int .i64 m'.kind, .int .i64 m'.view, .int .i64 m'.src, .int .i64 m'.dst, .int .i64 m'.op, .int .i64 m'.commit, .int .i64 m'.normal, .slice A3 n3 c3] 47)).cell? ⟨w2.heap.size, 5, none⟩ = some (.int .i64 0) := (cellAt BB.out 5).trans rfl
    have z6 : (w3.alloc (.cells #[.int .i64 m'.kind, .int .i64 m'.view, .int .i64 m'.src, .int .i64 m'.dst, .int .i64 m'.op, .int .i64 m'.commit, .int .i64 m'.normal, .slice A3 n3 c3] 47)).cell? ⟨w2.heap.size, 6, none⟩ = some (.int .i64 0) := (cellAt BB.out 6).trans rfl
    have z7 : (w3.alloc (.cells #[.int .i64 m'.kind, .int .i64 m'.view, .int .i64 m'.src, .int .i64 m'.dst, .int .i64 m'.op, .int .i64 m'.commit, .int .i64 m'.normal, .slice A3 n3 c3] 47)).cell? ⟨w2.heap.size, 7, none⟩ = some (.slice none 0 0) := (cellAt BB.out 7).trans rfl
    go_wp2_with fail
    go_ret
    exact ⟨rfl, HFIN.out _ CB.out⟩
  · have HP := hid hp
    obtain ⟨e1, e2, e3⟩ := parseMsg_back hp
    subst e1
    have E2 := hid e2
    have E3 := hid e3
    have HLOG := hid hlog.bound
    have S2 := hid (show w1.heap.size ≤ w2.heap.size from hc2.size)
    have CA := hid (show Chg (fun _ => False) w (w2.alloc (.cells #[.int .i64 m.kind, .int .i64 m.view, .int .i64 m.src, .int .i64 m.dst, .int .i64 m.op, .int .i64 m.commit, .int .i64 m.normal, .slice A2 n2 c2] 43)) from C2.out.alloc _)
    have CA2 := hid (show Chg (fun _ => False) w2 (w2.alloc (.cells #[.int .i64 m.kind, .int .i64 m.view, .int .i64 m.src, .int .i64 m.dst, .int .i64 m.op, .int .i64 m.commit, .int .i64 m.normal, .slice A2 n2 c2] 43)) from (Chg.refl _ w2).alloc _)
    have BA := hid (blk_new w2 (.cells #[.int .i64 m.kind, .int .i64 m.view, .int .i64 m.src, .int .i64 m.dst, .int .i64 m.op, .int .i64 m.commit, .int .i64 m.normal, .slice A2 n2 c2] 43))
    clear hc2 hp e2 e3 hwf hlog
    go_wp2_with fail
    refine (parsemsg_any (H.out.chg CA.out (fun _ _ h => h)) (by omega)).mono ?_
    rintro e w3 ⟨m', A3, n3, c3, ok, rfl, hq, _, hl3, hc3⟩
    rw [← parseMsg_eq, HP.out] at hq
    obtain rfl : ok = true := by
      cases ok with
      | true => rfl
      | false => simp at hq
    obtain rfl : m = m' := by simpa using hq
    have HL3 := hid hl3.bound
    obtain ⟨wb, hwb⟩ : ∃ wb, wb = w3.alloc (.cells #[.int .i64 m.kind, .int .i64 m.view, .int .i64 m.src, .int .i64 m.dst, .int .i64 m.op, .int .i64 m.commit, .int .i64 m.normal, .slice A3 n3 c3] 47) := ⟨_, rfl⟩
    have C3B := hid (show Chg (fun _ => False) w3 wb by rw [hwb]; exact (Chg.refl _ w3).alloc _)
    have CB := hid ((CA.out.trans hc3 (fun _ h _ => h)).trans C3B.out (fun _ h _ => h))
    have BB := hid (C3B.out.blk (hc3.blk BA.out (fun h => h)) (fun h => h))
    have B5 := hid (show wb.heap[w3.heap.size]? = some (.cells #[.int .i64 m.kind, .int .i64 m.view, .int .i64 m.src, .int .i64 m.dst, .int .i64 m.op, .int .i64 m.commit, .int .i64 m.normal, .slice A3 n3 c3] 47 (0, 0)) by rw [hwb]; exact blk_new w3 _)
    have HLB := hid ((((HLOG.out.chg CA2.out (fun _ _ h => h)).chg hc3 (fun _ _ h => h)).chg C3B.out (fun _ _ h => h)))
    have HL3B := hid (HL3.out.chg C3B.out (fun _ _ h => h))
    have z0 : wb.cell? ⟨w2.heap.size, 0, none⟩ = some (.int .i64 m.kind) := (cellAt BB.out 0).trans rfl
    have z1 : wb.cell? ⟨w2.heap.size, 1, none⟩ = some (.int .i64 m.view) := (cellAt BB.out 1).trans rfl
    have z2 : wb.cell? ⟨w2.heap.size, 2, none⟩ = some (.int .i64 m.src) := (cellAt BB.out 2).trans rfl
    have z3 : wb.cell? ⟨w2.heap.size, 3, none⟩ = some (.int .i64 m.dst) := (cellAt BB.out 3).trans rfl
    have z4 : wb.cell? ⟨w2.heap.size, 4, none⟩ = some (.int .i64 m.op) := (cellAt BB.out 4).trans rfl
    have z5 : wb.cell? ⟨w2.heap.size, 5, none⟩ = some (.int .i64 m.commit) := (cellAt BB.out 5).trans rfl
    have z6 : wb.cell? ⟨w2.heap.size, 6, none⟩ = some (.int .i64 m.normal) := (cellAt BB.out 6).trans rfl
    have z7 : wb.cell? ⟨w2.heap.size, 7, none⟩ = some (.slice A2 n2 c2) := (cellAt BB.out 7).trans rfl
    have HWB := hid hwb
    clear hwb hc3 hq hl3
    have hz : ∀ (bb : Bool), (!true) = false := fun _ => rfl
    go_wp2_with (first | ((with_reducible refine at_dst (N := 40) rfl ?_); rw [← HWB.out]))
    clear HWB z0 z1 z2 z3 z4 z5 z6 z7 hz
    refine (encode_any HLB.out).mono ?_
    rintro e w4 ⟨hc4, he⟩
    have C4 := hid hc4
    have CF4 := hid (CB.out.trans hc4 (fun _ h _ => h))
    rcases he with ⟨he, _⟩ | ⟨_, he, _⟩ | ⟨_, _, A4, c4, rfl, hby⟩
    · rw [E2.out] at he
      cases he
    · have := E3.out
      omega
    have HBY := hid hby
    have B24 := hid (hc4.blk BB.out (fun h => h))
    have B34 := hid (hc4.blk B5.out (fun h => h))
    have HMOK := hid (msgR_ok E2.out)
    have hn2 : n2 ≤ 100 := by have := HLB.out.1; have := HMOK.out.len; omega
    clear hc4 hby
    have y0 : w4.cell? ⟨w2.heap.size, 0, none⟩ = some (.int .i64 m.kind) := (cellAt B24.out 0).trans rfl
    have y1 : w4.cell? ⟨w2.heap.size, 1, none⟩ = some (.int .i64 m.view) := (cellAt B24.out 1).trans rfl
    have y2 : w4.cell? ⟨w2.heap.size, 2, none⟩ = some (.int .i64 m.src) := (cellAt B24.out 2).trans rfl
    have y3 : w4.cell? ⟨w2.heap.size, 3, none⟩ = some (.int .i64 m.dst) := (cellAt B24.out 3).trans rfl
    have y4 : w4.cell? ⟨w2.heap.size, 4, none⟩ = some (.int .i64 m.op) := (cellAt B24.out 4).trans rfl
    have y5 : w4.cell? ⟨w2.heap.size, 5, none⟩ = some (.int .i64 m.commit) := (cellAt B24.out 5).trans rfl
    have y6 : w4.cell? ⟨w2.heap.size, 6, none⟩ = some (.int .i64 m.normal) := (cellAt B24.out 6).trans rfl
    have y7 : w4.cell? ⟨w2.heap.size, 7, none⟩ = some (.slice A2 n2 c2) := (cellAt B24.out 7).trans rfl
    have u0 : w4.cell? ⟨w3.heap.size, 0, none⟩ = some (.int .i64 m.kind) := (cellAt B34.out 0).trans rfl
    have u1 : w4.cell? ⟨w3.heap.size, 1, none⟩ = some (.int .i64 m.view) := (cellAt B34.out 1).trans rfl
    have u2 : w4.cell? ⟨w3.heap.size, 2, none⟩ = some (.int .i64 m.src) := (cellAt B34.out 2).trans rfl
    have u3 : w4.cell? ⟨w3.heap.size, 3, none⟩ = some (.int .i64 m.dst) := (cellAt B34.out 3).trans rfl
    have u4 : w4.cell? ⟨w3.heap.size, 4, none⟩ = some (.int .i64 m.op) := (cellAt B34.out 4).trans rfl
    have u5 : w4.cell? ⟨w3.heap.size, 5, none⟩ = some (.int .i64 m.commit) := (cellAt B34.out 5).trans rfl
    have u6 : w4.cell? ⟨w3.heap.size, 6, none⟩ = some (.int .i64 m.normal) := (cellAt B34.out 6).trans rfl
    have u7 : w4.cell? ⟨w3.heap.size, 7, none⟩ = some (.slice A3 n3 c3) := (cellAt B34.out 7).trans rfl
    go_wp2_with fail
    refine (likemsg_any (m := m) (x := m) (HLB.out.chg C4.out (fun _ _ h => h)) (HL3B.out.chg C4.out (fun _ _ h => h)) (by omega) (fun e he => by have := (HMOK.out.log e he).putl; omega)).mono ?_
    rintro e w5 ⟨rfl, hc5⟩
    rw [decide_eq_true (rfl : m = m)]
    have C5 := hid (CF4.out.trans hc5 (fun _ h _ => h))
    have hs1 := HBY.out.str (M := fun _ => False) hc5 (fun _ _ h => h)
    have HW5 := hid (H.out.chg C5.out (fun _ _ h => h))
    have hs2 : (convert 25 9 (.slice A n c)).run Try.prog w5 = .ok (.string (bstr (msgB m))) w5 := str_run Try.underlying25 Try.underlying5 Try.underlying9 HW5.out.1 HW5.out.bytes HW5.out.2.2.2.1 HW5.out.2.1
    clear hc5 y0 u0 y1 u1 y2 u2 y3 u3 y4 u4 y5 u5 y6 u6 y7 u7
    go_wp2_with fail
    go_ret
    exact ⟨by simp, HFIN.out _ C5.out⟩
end Go.Proofs.Ytcmfgijdelaelaa.Pa
