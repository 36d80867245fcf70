/- The walk of the law PackCuts. -/
import Derived.Test.YtcmfgijdelaelaaPackAn
import Derived.Test.YtcmfgijdelaelaaTypesP
namespace Go.Proofs.Ytcmfgijdelaelaa.Pa
set_option linter.unusedVariables false
set_option linter.unusedSimpArgs false
open Go.RowKit Go.Proofs.Ytcmfgijdelaelaa.C
attribute [local go_sem] max2_int min2_int max_two min_two

theorem at_takeB {w : World} {S : Nat → Prop} {A : Option Addr} {n c : Nat} {xs : List UInt8} (h : Ty.At Ty.u8 w S A n c xs) (k : Nat) (hk : k ≤ n) :
    (∀ W, (Instr.slice 25 (.slice A n c) none (some (.int .i64 (k : Int))) none).run Try.prog W = .ok (.slice A k c) W) ∧ Ty.At Ty.u8 w S A k c (xs.take k) := by
  obtain ⟨h1, h2, h3, h4, cells, h5, h6⟩ := h
  obtain ⟨i, hi, _, hz, _⟩ := info_parts info5
  exact ⟨fun W => cut_to (P := Try.prog) 25 5 .i64 Try.underlying25 hi A n c k (by omega) W, by rw [List.length_take, ← h1]; omega, by omega, h3, h4, cells.take (k * 1), h5.take _, h6.take k⟩
theorem opensB_cut : Opens Try.prog 25 (Ty.slice Ty.u8) := opens_slice Try.underlying25 (by kernel_rfl) (opens_u8 Try.underlying5 (by kernel_rfl)) (by decide)
theorem msgB_48 {m : Msg} (h : msgR m = true) : 48 ≤ (msgB m).length := by
  have q := msg_fwd (msgR_ok h) []
  rw [List.append_nil] at q
  exact reads_msg.2 q

set_option maxHeartbeats 4000000 in
set_option maxRecDepth 100000 in
theorem PackCuts_walk (w : World) (cs : Array Value) (m : Msg) (h : msgK.K w (fun k => k < w.heap.size) m cs.toList) (i : Int) (hi : (Lit.int .i64 i).wf = true) (A0 : Option Addr) (n0 c0 : Nat) (b : List UInt8) (hb : Ty.At Ty.u8 w (fun k => k < w.heap.size) A0 n0 c0 b) :
    Calls Try.prog 7 #[.agg cs, .int .i64 i, .slice A0 n0 c0] w fun e w' => e = .returned (.bool true) ∧ Below w.heap.size w w' := by
  obtain ⟨A, n, c, rfl, hl⟩ := msg_open h
  have HL := hid hl
  obtain ⟨w0, hw0⟩ : ∃ w0, w0 = w.alloc (.cells #[.int .i64 m.kind, .int .i64 m.view, .int .i64 m.src, .int .i64 m.dst, .int .i64 m.op, .int .i64 m.commit, .int .i64 m.normal, .slice A n c] 43) := ⟨_, rfl⟩
  have C0 := hid (show Chg (fun _ => False) w w0 by rw [hw0]; exact (Chg.refl _ w).alloc _)
  have B0 := hid (show w0.heap[w.heap.size]? = some (.cells #[.int .i64 m.kind, .int .i64 m.view, .int .i64 m.src, .int .i64 m.dst, .int .i64 m.op, .int .i64 m.commit, .int .i64 m.normal, .slice A n c] 43 (0, 0)) by rw [hw0]; exact blk_new w _)
  have HFIN := hid (fun (w' : World) (hc : Chg (fun _ => False) w w') => (show Below w.heap.size w w' from hc.below (Nat.le_refl _) (fun _ h => h.elim)))
  have HBB := hid hb
  have LB := hid hb.1
  clear h hl hb
  go_enter Try.func7, Try.ntmps7
  go_wp2_with fail
  rw [← hw0]
  clear hw0
  refine (anchor_any w0).mono ?_
  rintro e w1 ⟨rfl, h1⟩
  have C1 := hid (C0.out.trans h1 (fun _ h _ => h))
  have B1 := hid (h1.blk B0.out (fun h => h))
  clear h1
  have x7 : w1.cell? ⟨w.heap.size, 7, none⟩ = some (.slice A n c) := (cellAt B1.out 7).trans rfl
  go_wp2_with fail
  clear x7
  refine (small_any (HL.out.chg C1.out (fun _ _ h => h))).mono ?_
  rintro e w2 ⟨rfl, h2⟩
  have C2 := hid (C1.out.trans h2 (fun _ h _ => h))
  have B2 := hid (h2.blk B1.out (fun h => h))
  clear h2
  cases hs : smallR m.log
  · go_wp2_with fail
    go_ret
    exact ⟨rfl, HFIN.out _ C2.out⟩
  have HS := hid hs
  have HPUT := hid (smallR_put hs)
  have hn7 : n ≤ 70 := by have := HL.out.1; have := smallR_len hs; omega
  clear hs
  by_cases i0 : i < 0
  · have i0' : i < 0 := i0
    go_wp2_with fail
    go_ret
    exact ⟨rfl, HFIN.out _ C2.out⟩
  by_cases i1 : (n0 : Int) < 1
  · have i1' : (n0 : Int) < 1 := i1
    go_wp2_with fail
    go_ret
    exact ⟨rfl, HFIN.out _ C2.out⟩
  by_cases i2 : (100 : Int) < (n0 : Int)
  · have i2' : (100 : Int) < (n0 : Int) := i2
    go_wp2_with fail
    go_ret
    exact ⟨rfl, HFIN.out _ C2.out⟩
  have x0 : w2.cell? ⟨w.heap.size, 0, none⟩ = some (.int .i64 m.kind) := (cellAt B2.out 0).trans rfl
  have x1 : w2.cell? ⟨w.heap.size, 1, none⟩ = some (.int .i64 m.view) := (cellAt B2.out 1).trans rfl
  have x2 : w2.cell? ⟨w.heap.size, 2, none⟩ = some (.int .i64 m.src) := (cellAt B2.out 2).trans rfl
  have x3 : w2.cell? ⟨w.heap.size, 3, none⟩ = some (.int .i64 m.dst) := (cellAt B2.out 3).trans rfl
  have x4 : w2.cell? ⟨w.heap.size, 4, none⟩ = some (.int .i64 m.op) := (cellAt B2.out 4).trans rfl
  have x5 : w2.cell? ⟨w.heap.size, 5, none⟩ = some (.int .i64 m.commit) := (cellAt B2.out 5).trans rfl
  have x6 : w2.cell? ⟨w.heap.size, 6, none⟩ = some (.int .i64 m.normal) := (cellAt B2.out 6).trans rfl
  have x7 : w2.cell? ⟨w.heap.size, 7, none⟩ = some (.slice A n c) := (cellAt B2.out 7).trans rfl
  go_wp2_with fail
  clear x0 x1 x2 x3 x4 x5 x6 x7
  refine (encode_any (m := m) (HL.out.chg C2.out (fun _ _ h => h))).mono ?_
  rintro e w3 ⟨h3, he⟩
  have C3 := hid (C2.out.trans h3 (fun _ h _ => h))
  have C23 := hid h3
  clear h3
  rcases he with ⟨hr, rfl⟩ | ⟨hr, hlen, rfl⟩ | ⟨hr, hlen, A4, c4, rfl, hby⟩
  · clear hr
    go_wp2_with fail
    go_ret
    exact ⟨rfl, HFIN.out _ C3.out⟩
  · clear hr hlen
    go_wp2_with fail
    go_ret
    exact ⟨rfl, HFIN.out _ C3.out⟩
  obtain ⟨L, hL⟩ : ∃ L, (msgB m).length = L := ⟨_, rfl⟩
  rw [hL] at hby hlen ⊢
  have L48 : 48 ≤ L := by rw [← hL]; exact msgB_48 hr
  have i3 : (L : Int) ≠ 0 := by omega
  have i4 : (0 : Int) < (L : Int) := by omega
  have i5 : (L : Int) ≤ 65536 := by omega
  obtain ⟨kk, hkk⟩ : ∃ kk : Nat, Int.tmod i (L : Int) = (kk : Int) := ⟨(Int.tmod i (L : Int)).toNat, (Int.toNat_of_nonneg (Int.tmod_nonneg _ (by omega))).symm⟩
  have hkn : kk < L := by
    have := Int.tmod_lt_of_pos i i4
    omega
  obtain ⟨hcut, hAT⟩ := at_takeB hby.at kk (by omega)
  have AT := hid hAT
  have HBY := hid hby
  have HCUT := hid (parseMsg_cut hr (k := kk) (by omega))
  have HMORE := hid (parseMsg_more hr (b := b) (by have := LB.out; omega))
  have HLL := hid hL
  clear hr hby hAT hL
  go_wp2_with fail
  refine (decode_any AT.out (by omega)).mono ?_
  rintro e w5 ⟨h5, hd⟩
  rcases hd with ⟨hd, rfl⟩ | ⟨m', _, _, _, hd, _⟩
  case inr =>
    rw [HCUT.out] at hd
    cases hd
  obtain ⟨wz, hwz⟩ : ∃ wz, wz = (w5.alloc (.cells #[.int .i64 0, .int .i64 0, .int .i64 0, .int .i64 0, .int .i64 0, .int .i64 0, .int .i64 0, .slice none 0 0] 43)).alloc (.cells #[] 5) := ⟨_, rfl⟩
  have CZ0 := hid (show Chg (fun _ => False) w5 wz by rw [hwz]; exact ((Chg.refl _ w5).alloc _).alloc _)
  have C3Z := hid (show Chg (fun _ => False) w3 wz from h5.trans CZ0.out (fun _ h _ => h))
  have CZ := hid (C3.out.trans C3Z.out (fun _ h _ => h))
  have HNIL := hid (show wz.ownsRow 0 5 1 (.slice (some ⟨w5.heap.size + 1, 0, none⟩) 0 0) 0 [] by
    have q := World.ownsRow_lit (base := 0) (e := 5) (size := 1) (w5.alloc (.cells #[.int .i64 0, .int .i64 0, .int .i64 0, .int .i64 0, .int .i64 0, .int .i64 0, .int .i64 0, .slice none 0 0] 43)) #[] 0 (Nat.zero_le _) (by simp [maxLen]) rfl
    rw [World.size_alloc] at q
    rw [hwz]
    exact q)
  have HB5 := hid ((HBY.out.chg C3Z.out (fun _ _ h => h)).at)
  have HT5 := hid (HBB.out.chg CZ.out (fun _ _ h => h))
  have HWZ := hid hwz
  have SZ := hid (show w5.heap.size + 1 < wz.heap.size by rw [hwz, World.size_alloc, World.size_alloc]; exact Nat.lt_succ_self _)
  have SW := hid (show w.heap.size ≤ w5.heap.size from Nat.le_trans C3.out.size h5.size)
  clear hwz h5 hd
  go_wp2_with (first | ((with_reducible refine at_dst (N := 53) rfl ?_); rw [← HWZ.out]) | (at_builtin; refine app_list _ rfl (.tmp 51) (.tmp 52) 25 5 (.int .u8 0) 1 1 rfl Try.underlying25 info5 rfl (by decide) (by decide) (.slice (some ⟨w5.heap.size + 1, 0, none⟩) 0 0) 0 [] rfl HNIL.out A4 L c4 (u8s (msgB m)) _ rfl HB5.out.2.2.2.1 HB5.out.2.1 (by rw [u8s_length, ← HLL.out, Nat.mul_one]) HB5.out.bytes (u8s_one _) (by omega) ?_; intro A6 c6 w6 h1 h2 h3; rw [Nat.zero_add] at h1 h3 ⊢; have G1 := hid h1; have G2 := hid h2; have G3 := hid h3; clear h1 h2 h3) | (at_builtin; refine app_list _ rfl (.tmp 53) (.tmp 54) 25 5 (.int .u8 0) 1 1 rfl Try.underlying25 info5 rfl (by decide) (by decide) (.slice A6 L c6) L ([] ++ u8s (msgB m)) rfl G1.out A0 n0 c0 (u8s b) _ rfl HT5.out.2.2.2.1 HT5.out.2.1 (by rw [u8s_length, ← LB.out, Nat.mul_one]) (HT5.out.chg G2.out (fun k hk e => by have hk' : k < w.heap.size := hk; have := SW.out; simp [Value.ownBlock] at e; try omega)).bytes (u8s_one _) (by omega) ?_; intro A7 c7 w7 h1 h2 h3; have G4 := hid h1; have G5 := hid h2; have G6 := hid h3; clear h1 h2 h3))
  have CW := hid ((CZ.out.trans G2.out (fun k hk hl => by simp [Value.ownBlock] at hk; have := SW.out; omega)).trans G5.out (fun k hk hl => by
    rcases G3.out k hk with q | q
    · simp [Value.ownBlock] at q
      have := SW.out
      omega
    · have := SW.out
      have := SZ.out
      omega))
  have AT7 := hid (show Ty.At Ty.u8 w7 (fun _ => True) A7 (L + n0) c7 (msgB m ++ b) from by
    have q := G4.out
    rw [List.nil_append, ← u8s_append] at q
    exact Byt.at ⟨by rw [List.length_append, HLL.out, ← LB.out]; exact q, fun _ _ => trivial⟩)
  refine (decode_any AT7.out (by omega)).mono ?_
  rintro e w8 ⟨h8, hd⟩
  rcases hd with ⟨hd, rfl⟩ | ⟨m', _, _, _, hd, _⟩
  case inr =>
    rw [HMORE.out] at hd
    cases hd
  have C8 := hid (CW.out.trans h8 (fun _ h _ => h))
  clear h8 hd
  go_wp2_with fail
  go_ret
  exact ⟨by simp, HFIN.out _ (C8.out.alloc _)⟩
end Go.Proofs.Ytcmfgijdelaelaa.Pa
