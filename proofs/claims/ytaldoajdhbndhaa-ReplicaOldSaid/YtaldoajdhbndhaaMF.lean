/- Texts of this claim, one behind the other: RepZ, TypesL, RepLa, RepLb, RepLc. -/
import Derived.Test.YtaldoajdhbndhaaME

/- New. -/

namespace Go.Proofs.Ytaldoajdhbndhaa.Pa

set_option linter.unusedVariables false

set_option linter.unusedSimpArgs false

open Go.RowKit Go.Proofs.Ytaldoajdhbndhaa.C

attribute [local go_sem] max2_int min2_int max_two min_two

def NewTo (R : Nat → Prop) (n id tm : Int) (s : St) (w : World) (e' : Ending) (w' : World) : Prop :=
  (¬ (cfgR n id tm = true ∧ stR s = true) ∧ e' = .returned (.tuple #[.pointer none, .int .i64 10]) ∧ Chg (fun _ => False) w w') ∨
  (cfgR n id tm = true ∧ stR s = true ∧ ∃ p b1 b2 b3 A' n' c', e' = .returned (.tuple #[.pointer (some ⟨p, 0, none⟩), .int .i64 0]) ∧ (∀ k, M4 p b1 b2 b3 k → w.heap.size ≤ k ∧ k < w'.heap.size) ∧ Rep w' w' p b1 b2 b3 (fun k => M4 p b1 b2 b3 k ∨ (¬ R k ∧ k < w.heap.size)) (newR n id tm s) A' n' c' (.slice none 0 0) ∧ Chg (fun _ => False) w w')
/-- Fewer blocks are kept apart. -/
theorem Rep.less {w0 w : World} {p b1 b2 b3 : Nat} {X X' : Nat → Prop} {r : Rp} {A : Option Addr} {n c : Nat} {O : Value} (h : Rep w0 w p b1 b2 b3 X r A n c O) (h1 : ∀ k, M4 p b1 b2 b3 k → X' k) (h2 : ∀ k, X' k → X k) : Rep w0 w p b1 b2 b3 X' r A n c O := by
  obtain ⟨V, h3, h4⟩ := h.chgs
  have hlg : ∀ k, Lg X O k → Lg X' O k := fun k hk => ⟨fun e => hk.1 (h2 k e), hk.2⟩
  exact ⟨h.sz, h.lt, h.ne, ⟨h1, fun k hk => h.sub.2 k (h2 k hk)⟩, h.blk, h.acks, h.starts, ⟨V, h3, h4.mono hlg⟩, h.log.mono hlg, h.out⟩
set_option maxHeartbeats 4000000 in
set_option maxRecDepth 100000 in
theorem rnew_any {w : World} {R : Nat → Prop} {n id tm : Int} {s : St} {A : Option Addr} {k c : Nat} (hl : Ty.At entryK w R A k c s.log) (hk : k ≤ 1000000) (hnw : NumW n ∧ NumW id ∧ NumW tm) :
    Calls Try.prog 13 #[.agg #[.int .i64 n, .int .i64 id, .int .i64 tm], .agg #[.int .i64 s.view, .int .i64 s.normal, .int .i64 s.commit, .int .i64 s.active, .slice A k c]] w (NewTo R n id tm s w) := by
  obtain ⟨bs, hbs⟩ : ∃ q_, q_ = w.heap.size + 1 := ⟨_, rfl⟩
  obtain ⟨w1, hw1⟩ : ∃ q_, q_ = ((w.alloc (.cells #[.int .i64 n, .int .i64 id, .int .i64 tm] 23)).alloc (.cells #[.int .i64 s.view, .int .i64 s.normal, .int .i64 s.commit, .int .i64 s.active, .slice A k c] 26)) := ⟨_, rfl⟩
  have C1 := hid (show Chg (fun _ => False) w w1 by rw [hw1]; exact ((Chg.refl _ w).alloc _).alloc _)
  have BC := hid (show w1.heap[w.heap.size]? = some (.cells #[.int .i64 n, .int .i64 id, .int .i64 tm] 23 (0, 0)) by
    rw [hw1]
    refine blk_alloc ?_ _
    have := blk_new w (.cells #[.int .i64 n, .int .i64 id, .int .i64 tm] 23)
    simpa using this)
  have BS := hid (show w1.heap[bs]? = some (.cells #[.int .i64 s.view, .int .i64 s.normal, .int .i64 s.commit, .int .i64 s.active, .slice A k c] 26 (0, 0)) by
    rw [hw1, hbs]
    have := blk_new (w.alloc (.cells #[.int .i64 n, .int .i64 id, .int .i64 tm] 23)) (.cells #[.int .i64 s.view, .int .i64 s.normal, .int .i64 s.commit, .int .i64 s.active, .slice A k c] 26)
    simpa using this)
  have ne01 : w.heap.size ≠ bs := by omega
  have ne10 : bs ≠ w.heap.size := by omega
  have Hbs := hid hbs
  have ltbs : w.heap.size < bs := by omega
  have SZ := hid (show w1.heap.size = w.heap.size + 2 by rw [hw1]; simp)
  have HL := hid (hl.bound.chg C1.out (fun _ _ h => h))
  have HK := hid hk
  clear hl hk
  go_enter Try.func13, Try.ntmps13
  go_wp2_with fail
  rw [← hbs, ← hw1]
  clear hw1 hbs
  refine (cfg_any n id tm _).mono ?_
  rintro e w2 ⟨rfl, k2⟩
  have K2 := hid (show Chg (fun _ => False) w w2 from C1.out.trans k2 (fun _ h _ => h))
  replace BC := hid (k2.blk BC.out (fun h => h))
  replace BS := hid (k2.blk BS.out (fun h => h))
  replace HL := hid (HL.out.chg k2 (fun _ _ h => h))
  clear k2
  cases hcf : cfgR n id tm
  case false =>
    have HCF := hid hcf
    clear hcf
    go_wp2_with fail
    go_ret2
    exact .inl ⟨fun h => (by have := HCF.out.symm.trans h.1; cases this), rfl, K2.out⟩
  have HCF := hid hcf
  clear hcf
  have S_0 : w2.cell? ⟨bs, 0, none⟩ = some (.int .i64 s.view) := (cellAt BS.out 0).trans rfl
  have S_1 : w2.cell? ⟨bs, 1, none⟩ = some (.int .i64 s.normal) := (cellAt BS.out 1).trans rfl
  have S_2 : w2.cell? ⟨bs, 2, none⟩ = some (.int .i64 s.commit) := (cellAt BS.out 2).trans rfl
  have S_3 : w2.cell? ⟨bs, 3, none⟩ = some (.int .i64 s.active) := (cellAt BS.out 3).trans rfl
  have S_4 : w2.cell? ⟨bs, 4, none⟩ = some (.slice A k c) := (cellAt BS.out 4).trans rfl
  go_wp2_with fail
  clear S_0 S_1 S_2 S_3 S_4
  refine (stright_any HL.out).mono ?_
  rintro e w3 ⟨rfl, k3⟩
  replace K2 := hid (K2.out.trans k3 (fun _ h _ => h))
  replace BC := hid (k3.blk BC.out (fun h => h))
  replace BS := hid (k3.blk BS.out (fun h => h))
  replace HL := hid (HL.out.chg k3 (fun _ _ h => h))
  clear k3
  cases hst : stR s
  case false =>
    have HST := hid hst
    clear hst
    go_wp2_with fail
    go_ret2
    exact .inl ⟨fun h => (by have := HST.out.symm.trans h.2; cases this), rfl, K2.out⟩
  have HST := hid hst
  clear hst
  have S_0 : w3.cell? ⟨bs, 0, none⟩ = some (.int .i64 s.view) := (cellAt BS.out 0).trans rfl
  have S_1 : w3.cell? ⟨bs, 1, none⟩ = some (.int .i64 s.normal) := (cellAt BS.out 1).trans rfl
  have S_2 : w3.cell? ⟨bs, 2, none⟩ = some (.int .i64 s.commit) := (cellAt BS.out 2).trans rfl
  have S_3 : w3.cell? ⟨bs, 3, none⟩ = some (.int .i64 s.active) := (cellAt BS.out 3).trans rfl
  have S_4 : w3.cell? ⟨bs, 4, none⟩ = some (.slice A k c) := (cellAt BS.out 4).trans rfl
  have C_0 : w3.cell? ⟨w.heap.size, 0, none⟩ = some (.int .i64 n) := (cellAt BC.out 0).trans rfl
  have C_1 : w3.cell? ⟨w.heap.size, 1, none⟩ = some (.int .i64 id) := (cellAt BC.out 1).trans rfl
  have C_2 : w3.cell? ⟨w.heap.size, 2, none⟩ = some (.int .i64 tm) := (cellAt BC.out 2).trans rfl
  obtain ⟨b1, hb1⟩ : ∃ q_, q_ = w3.heap.size := ⟨_, rfl⟩
  obtain ⟨b2, hb2⟩ : ∃ q_, q_ = b1 + 1 := ⟨_, rfl⟩
  obtain ⟨b3, hb3⟩ : ∃ q_, q_ = b1 + 1 + 1 := ⟨_, rfl⟩
  obtain ⟨p, hp⟩ : ∃ q_, q_ = b1 + 1 + 1 + 1 := ⟨_, rfl⟩
  obtain ⟨w4, hw4⟩ : ∃ q_, q_ = ((((w3.alloc (.map #[] 0)).alloc (.map #[] 0)).alloc (.map #[] 0)).alloc (.cells #[.int .i64 n, .int .i64 id, .int .i64 tm, .int .i64 s.view, .int .i64 s.normal, .int .i64 s.commit, .int .i64 s.active, .slice A k c, .bool (s.normal != s.view), .map (some b1), .map (some b2), .map (some b3), .bool false, .int .i64 0, .slice none 0 0] 100)) := ⟨_, rfl⟩
  have C4 := hid (show Chg (fun _ => False) w3 w4 by rw [hw4]; exact ((((Chg.refl _ w3).alloc _).alloc _).alloc _).alloc _)
  have I1 := hid (show IM w4 b1 [] by
    rw [hw4]
    have := (IM.made w3).chg ((((Chg.refl (fun _ => False) _).alloc (.map #[] 0)).alloc (.map #[] 0)).alloc (.cells #[.int .i64 n, .int .i64 id, .int .i64 tm, .int .i64 s.view, .int .i64 s.normal, .int .i64 s.commit, .int .i64 s.active, .slice A k c, .bool (s.normal != s.view), .map (some b1), .map (some b2), .map (some b3), .bool false, .int .i64 0, .slice none 0 0] 100)) (fun h => h)
    rw [← hb1] at this
    exact this)
  have I2 := hid (show IM w4 b2 [] by
    rw [hw4]
    have := (IM.made (w3.alloc (.map #[] 0))).chg (((Chg.refl (fun _ => False) _).alloc (.map #[] 0)).alloc (.cells #[.int .i64 n, .int .i64 id, .int .i64 tm, .int .i64 s.view, .int .i64 s.normal, .int .i64 s.commit, .int .i64 s.active, .slice A k c, .bool (s.normal != s.view), .map (some b1), .map (some b2), .map (some b3), .bool false, .int .i64 0, .slice none 0 0] 100)) (fun h => h)
    rw [show (w3.alloc (.map #[] 0)).heap.size = b2 by rw [hb2, hb1]; simp] at this
    exact this)
  have I3 := hid (show IM w4 b3 [] by
    rw [hw4]
    have := (IM.made ((w3.alloc (.map #[] 0)).alloc (.map #[] 0))).chg ((Chg.refl (fun _ => False) _).alloc (.cells #[.int .i64 n, .int .i64 id, .int .i64 tm, .int .i64 s.view, .int .i64 s.normal, .int .i64 s.commit, .int .i64 s.active, .slice A k c, .bool (s.normal != s.view), .map (some b1), .map (some b2), .map (some b3), .bool false, .int .i64 0, .slice none 0 0] 100)) (fun h => h)
    rw [show ((w3.alloc (.map #[] 0)).alloc (.map #[] 0)).heap.size = b3 by rw [hb3, hb1]; simp] at this
    exact this)
  have BP := hid (show w4.heap[p]? = some (.cells #[.int .i64 n, .int .i64 id, .int .i64 tm, .int .i64 s.view, .int .i64 s.normal, .int .i64 s.commit, .int .i64 s.active, .slice A k c, .bool (s.normal != s.view), .map (some b1), .map (some b2), .map (some b3), .bool false, .int .i64 0, .slice none 0 0] 100 (0, 0)) by
    rw [hw4]
    have := blk_new (((w3.alloc (.map #[] 0)).alloc (.map #[] 0)).alloc (.map #[] 0)) (.cells #[.int .i64 n, .int .i64 id, .int .i64 tm, .int .i64 s.view, .int .i64 s.normal, .int .i64 s.commit, .int .i64 s.active, .slice A k c, .bool (s.normal != s.view), .map (some b1), .map (some b2), .map (some b3), .bool false, .int .i64 0, .slice none 0 0] 100)
    rw [show (((w3.alloc (.map #[] 0)).alloc (.map #[] 0)).alloc (.map #[] 0)).heap.size = p by rw [hp, hb1]; simp] at this
    exact this)
  have HB1 := hid hb1
  have HB2 := hid hb2
  have HB3 := hid hb3
  have HP := hid hp
  have HW4 := hid (show w4.heap.size = b1 + 1 + 1 + 1 + 1 by rw [hw4, hb1]; simp)
  have hs4 : bs < w3.heap.size := lt_of_blk BS.out
  have hs5 : bs ≠ w3.heap.size := by omega
  have hs6 : bs ≠ w3.heap.size + 1 := by omega
  have hs7 : bs ≠ w3.heap.size + 1 + 1 := by omega
  have hs8 : bs ≠ w3.heap.size + 1 + 1 + 1 := by omega
  have hs9 : bs < w3.heap.size + 1 := by omega
  have hs10 : bs < w3.heap.size + 1 + 1 := by omega
  have hs11 : bs < w3.heap.size + 1 + 1 + 1 := by omega
  have HS4 := hid hs4
  have hm1 : ∀ W : World, (Instr.makeMap 96 none).run Try.prog W = .ok (.map (some W.heap.size)) (W.alloc (.map #[] 0)) := fun W => run_makeMap _ _
  have hm2 : ∀ W : World, (Instr.makeMap 97 none).run Try.prog W = .ok (.map (some W.heap.size)) (W.alloc (.map #[] 0)) := fun W => run_makeMap _ _
  have hm3 : ∀ W : World, (Instr.makeMap 98 none).run Try.prog W = .ok (.map (some W.heap.size)) (W.alloc (.map #[] 0)) := fun W => run_makeMap _ _
  have HW4E := hid hw4
  clear hb1 hb2 hb3 hp hw4
  go_wp2_with fail
  rw [← HB1.out, ← HP.out, ← HB3.out, ← HB2.out, ← HW4E.out]
  clear hs4 hs5 hs6 hs7 hs8 hs9 hs10 hs11 hm1 hm2 hm3 S_0 S_1 S_2 S_3 S_4 C_0 C_1 C_2 HW4E
  refine (clone_ents (HL.out.chg C4.out (fun _ _ h => h)) HK.out).mono ?_
  rintro e w5 ⟨A5, c5, rfl, hv, k5⟩
  have HV := hid hv
  have K5 := hid k5
  have HCH := hid (show (s.normal != s.view) = decide (s.normal ≠ s.view) by by_cases q : s.normal = s.view <;> simp [q])
  have BP5 := hid (k5.blk BP.out (fun h => h))
  have HB1L := hid (show w.heap.size ≤ b1 by have := K2.out.size; have := HB1.out; omega)
  clear hv k5
  have P_7 : w5.cell? ⟨p, 7, none⟩ = some (.slice A k c) := (cellAt BP5.out 7).trans rfl
  have F_7 : w5.frozen? ⟨p, 7, none⟩ = false := freeAt BP5.out 7
  go_wp2_with fail
  clear P_7 F_7
  obtain ⟨w6, hw6⟩ : ∃ q_, q_ = w5.setCell ⟨p, 7, none⟩ (.slice A5 k c5) := ⟨_, rfl⟩
  rw [← hw6]
  have K6 := hid (show Chg (fun j => j = p) w5 w6 by rw [hw6]; exact (Chg.refl (fun j => j = p) w5).set (fun _ => rfl) _)
  have hsz : w4.heap.size ≤ w6.heap.size := Nat.le_trans K5.out.size K6.out.size
  have H6 : Rep w6 w6 p b1 b2 b3 (fun j => M4 p b1 b2 b3 j ∨ (¬ R j ∧ j < w.heap.size)) (newR n id tm s) A5 k c5 (.slice none 0 0) := by
    have e1 := HB1.out
    have e2 := HB2.out
    have e3 := HB3.out
    have e4 := HP.out
    have e5 := HW4.out
    have e6 := HB1L.out
    have hM : ∀ j, M4 p b1 b2 b3 j → w.heap.size ≤ j ∧ j < w4.heap.size := fun j hj => by rcases hj with h | h | h | h <;> omega
    have hl : ∀ j, (w4.heap.size ≤ j ∨ (R j ∧ j < w.heap.size)) → ¬ (M4 p b1 b2 b3 j ∨ (¬ R j ∧ j < w.heap.size)) := fun j hj e => by
      rcases e with e | e
      · have := hM j e
        rcases hj with h | h
        · omega
        · omega
      · rcases hj with h | h
        · omega
        · exact e.1 h.1
    refine ⟨Nat.le_refl _, by omega, by omega, ⟨fun j hj => .inl hj, fun j hj => by rcases hj with h | h; have := hM j h; omega; omega⟩, ?_, (I1.out.chg K5.out (fun h => h)).chg K6.out (by omega), (I2.out.chg K5.out (fun h => h)).chg K6.out (by omega), ⟨[], (I3.out.chg K5.out (fun h => h)).chg K6.out (by omega), rfl, fun q a b hq _ => by cases hq⟩, ?_, Vec.nil _ _ _ _ _⟩
    · rw [hw6]
      have := blk_set BP5.out 7 (.slice A5 k c5)
      rw [HCH.out] at this
      exact this
    · refine (HV.out.at.chg K6.out (fun j hj e => ?_)).mono (fun j hj => ⟨hl j ?_, fun e => by simp [Value.ownBlock] at e⟩)
      · rcases hj with h | h
        · have : w4.heap.size ≤ j := h; omega
        · have := h.1.2; omega
      · rcases hj with h | h
        · exact .inl h
        · exact .inr h.1
  have HH6 := hid H6
  have HS6 := hid hsz
  have C6 := hid (show Chg (fun _ => False) w w6 from ((K2.out.trans C4.out (fun _ h _ => h)).trans K5.out (fun _ h _ => h)).trans K6.out (fun j hj hl => by have h1 := HB1L.out; have h2 := HP.out; omega))
  clear H6 hsz hw6
  refine (forget_any HH6.out).mono ?_
  rintro e w7 ⟨rfl, h7, k7⟩
  have H7 := hid h7
  have K7 := hid k7
  clear h7 k7
  go_wp2_with fail
  go_ret2
  refine .inr ⟨HCF.out, HST.out, p, b1, b2, b3, A5, k, c5, rfl, fun j hj => ?_, H7.out.again rfl, C6.out.trans K7.out (fun j hj hl => ?_)⟩
  · have e1 := HB1.out
    have e2 := HB2.out
    have e3 := HB3.out
    have e4 := HP.out
    have e5 := HW4.out
    have e6 := HB1L.out
    have e7 := HS6.out
    have e8 := K7.out.size
    rcases hj with h | h | h | h <;> omega
  · have e1 := HB1.out
    have e2 := HB2.out
    have e3 := HB3.out
    have e4 := HP.out
    have e6 := HB1L.out
    rcases hj with h | h | h | h <;> omega
end Go.Proofs.Ytaldoajdhbndhaa.Pa


/- How the types of ledgers open. -/

namespace Go.Proofs.Ytaldoajdhbndhaa.Pa

set_option linter.unusedVariables false

set_option linter.unusedSimpArgs false

open Go.RowKit Go.Proofs.Ytaldoajdhbndhaa.C

attribute [local go_sem] max2_int min2_int max_two min_two

theorem opens_st : Opens Try.prog 26 stK := opens_struct Try.underlying26 (by kernel_rfl) (opensF_cons rfl rfl opens_int_ (opensF_cons rfl rfl opens_int_ (opensF_cons rfl rfl opens_int_ (opensF_cons rfl rfl opens_int_ (opensF_last rfl rfl opens_entries))))) (fun s : St => (s.view, s.normal, s.commit, s.active, s.log)) (fun p => ⟨p.1, p.2.1, p.2.2.1, p.2.2.2.1, p.2.2.2.2⟩) (fun _ => rfl)
end Go.Proofs.Ytaldoajdhbndhaa.Pa


/- What the laws of replicas share: types, a replica between two calls, an entry that changes nothing. -/

namespace Go.Proofs.Ytaldoajdhbndhaa.Pa

set_option linter.unusedVariables false

set_option linter.unusedSimpArgs false

open Go.RowKit Go.Proofs.Ytaldoajdhbndhaa.C

attribute [local go_sem] max2_int min2_int max_two min_two

def cfgK : Ty (Int × Int × Int) := Ty.pair (Ty.int .i64) (Ty.pair (Ty.int .i64) (Ty.int .i64))
theorem cfg_open {w : World} {S : Nat → Prop} {x : Int × Int × Int} {cs : Array Value} (h : cfgK.K w S x cs.toList) : cs = #[.int .i64 x.1, .int .i64 x.2.1, .int .i64 x.2.2] ∧ NumW x.1 ∧ NumW x.2.1 ∧ NumW x.2.2 := by
  obtain ⟨_, _, e1, ⟨rfl, w1⟩, _, _, rfl, ⟨rfl, w2⟩, rfl, w3⟩ := h
  exact ⟨Array.ext' e1, w1, w2, w3⟩
theorem opens_cfg : Opens Try.prog 23 cfgK := Opens.conv (opens_struct Try.underlying23 (by kernel_rfl) (opensF_cons rfl rfl opens_int_ (opensF_cons rfl rfl opens_int_ (opensF_last rfl rfl opens_int_))) (fun x : Int × Int × Int => x) (fun x => x) (fun _ => rfl)) rfl (fun {w S x cs} h => ⟨x, h⟩)
theorem opens_msgs : Opens Try.prog 27 (Ty.slice msgK) := opens_slice Try.underlying27 (by kernel_rfl) opens_msg (by decide)
theorem st_field2 (a b c d : Int) (A : Option Addr) (n k : Nat) (W : World) : (Instr.field 26 (.agg #[.int .i64 a, .int .i64 b, .int .i64 c, .int .i64 d, .slice A n k]) 2).run Try.prog W = .ok (.int .i64 c) W := by kernel_rfl
/-- A replica between two calls. -/
structure RQ (w : World) (p b1 b2 b3 : Nat) (X : Nat → Prop) (r : Rp) : Prop where
  ok : RpOk r
  out : r.out = []
  rep : ∃ A n c, Rep w w p b1 b2 b3 X r A n c (.slice none 0 0)
theorem RQ.chg {w w' : World} {p b1 b2 b3 : Nat} {X M : Nat → Prop} {r : Rp} (h : RQ w p b1 b2 b3 X r) (hc : Chg M w w') (hM : ∀ k, M k → k < w.heap.size → X k ∧ ¬ M4 p b1 b2 b3 k) : RQ w' p b1 b2 b3 X r := by
  obtain ⟨A, n, c, hr⟩ := h.rep
  exact ⟨h.ok, h.out, A, n, c, (hr.apart (hc.mono hM)).again h.out⟩
theorem RQ.far {w w' : World} {p b1 b2 b3 : Nat} {X : Nat → Prop} {r : Rp} (h : RQ w p b1 b2 b3 X r) (hc : Chg (fun _ => False) w w') : RQ w' p b1 b2 b3 X r := h.chg hc (fun _ h _ => h.elim)
theorem Stood.rq {w w' : World} {p b1 b2 b3 : Nat} {X : Nat → Prop} {r : Rp} {v : Value → Value} {e' : Ending} (h : Stood w p b1 b2 b3 X r v e' w') (hok : RpOk r) : ∃ A c, e' = .returned (v (.slice A r.out.length c)) ∧ RQ w' p b1 b2 b3 X { r with out := [] } ∧ Vec msgK 41 w' (fun k => w.heap.size ≤ k) (fun k => w.heap.size ≤ k) (.slice A r.out.length c) r.out ∧ Chg (M4 p b1 b2 b3) w w' := by
  obtain ⟨O', rfl, ⟨A', n', c', h1⟩, h2, h3⟩ := h
  obtain ⟨A, c, rfl⟩ := h2.form
  exact ⟨A, c, rfl, ⟨hok.out [], rfl, A', n', c', h1.again rfl⟩, h2, h3⟩
theorem RQ.lt {w : World} {p b1 b2 b3 : Nat} {X : Nat → Prop} {r : Rp} (h : RQ w p b1 b2 b3 X r) : ∀ k, M4 p b1 b2 b3 k → k < w.heap.size := by
  obtain ⟨A, n, c, hr⟩ := h.rep
  exact fun k hk => hr.sub.2 k (hr.sub.1 k hk)
/-- More blocks are kept apart, which were new behind it. -/
theorem RQ.widen {w w' : World} {p b1 b2 b3 : Nat} {X Y : Nat → Prop} {r : Rp} (h : RQ w p b1 b2 b3 X r) (hc : Chg (fun _ => False) w w') (hY : ∀ k, Y k → w.heap.size ≤ k ∧ k < w'.heap.size) : RQ w' p b1 b2 b3 (fun k => X k ∨ Y k) r := by
  obtain ⟨A, n, c, h0⟩ := h.rep
  refine ⟨h.ok, h.out, A, n, c, ?_⟩
  obtain ⟨V, h3, h4⟩ := h0.chgs
  have hs := hc.size
  have hl := h0.lt
  have hlg : ∀ k, Lg X (.slice none 0 0) k ∧ k < w.heap.size → Lg (fun k => X k ∨ Y k) (.slice none 0 0) k := fun k hk => ⟨fun e => by rcases e with e | e; exact hk.1.1 e; have := (hY k e).1; have := hk.2; omega, hk.1.2⟩
  exact ⟨Nat.le_refl _, by omega, h0.ne, ⟨fun k hk => .inl (h0.sub.1 k hk), fun k hk => by rcases hk with e | e; have := h0.sub.2 k e; omega; exact (hY k e).2⟩, hc.blk h0.blk (fun h => h), h0.acks.chg hc (fun h => h), h0.starts.chg hc (fun h => h), ⟨V, h3.chg hc (fun h => h), (h4.bound.chg hc (fun _ _ h => h)).mono hlg⟩, (h0.log.bound.chg hc (fun _ _ h => h)).mono hlg, by rw [h.out]; exact Vec.nil _ _ _ _ _⟩
theorem RQ.less {w : World} {p b1 b2 b3 : Nat} {X X' : Nat → Prop} {r : Rp} (h : RQ w p b1 b2 b3 X r) (h1 : ∀ k, M4 p b1 b2 b3 k → X' k) (h2 : ∀ k, X' k → X k) : RQ w p b1 b2 b3 X' r := by
  obtain ⟨A, n, c, hr⟩ := h.rep
  exact ⟨h.ok, h.out, A, n, c, hr.less h1 h2⟩
theorem RQ.of_new {R : Nat → Prop} {n id tm : Int} {s : St} {w : World} {e' : Ending} {w' : World} (h : NewTo R n id tm s w e' w') (hc : cfgR n id tm = true) (hs : stR s = true) : ∃ p b1 b2 b3, e' = .returned (.tuple #[.pointer (some ⟨p, 0, none⟩), .int .i64 0]) ∧ (∀ k, M4 p b1 b2 b3 k → w.heap.size ≤ k ∧ k < w'.heap.size) ∧ RQ w' p b1 b2 b3 (fun k => M4 p b1 b2 b3 k ∨ (¬ R k ∧ k < w.heap.size)) (newR n id tm s) ∧ Chg (fun _ => False) w w' := by
  rcases h with ⟨h, _⟩ | ⟨_, _, p, b1, b2, b3, A, k, c, rfl, h1, h2, h3⟩
  · exact absurd ⟨hc, hs⟩ h
  · exact ⟨p, b1, b2, b3, rfl, h1, ⟨RpOk.new hc hs, rfl, A, k, c, h2⟩, h3⟩
theorem rq_role {w : World} {p b1 b2 b3 : Nat} {X : Nat → Prop} {r : Rp} (h : RQ w p b1 b2 b3 X r) : Calls Try.prog 16 #[.pointer (some ⟨p, 0, none⟩)] w fun e' w' => e' = .returned (.int .i64 (roleR r)) ∧ Chg (fun _ => False) w w' := by
  obtain ⟨A, n, c, hr⟩ := h.rep
  exact role_any hr h.ok.cfg.1 h.ok.stn.1
theorem rq_state {w : World} {p b1 b2 b3 : Nat} {X : Nat → Prop} {r : Rp} (h : RQ w p b1 b2 b3 X r) : Calls Try.prog 15 #[.pointer (some ⟨p, 0, none⟩)] w (fun e' w' => ∃ A' c', e' = .returned (.agg #[.int .i64 r.s.view, .int .i64 r.s.normal, .int .i64 r.s.commit, .int .i64 r.s.active, .slice A' r.s.log.length c']) ∧ Ty.At entryK w' (fun k => w.heap.size ≤ k ∧ k < w'.heap.size) A' r.s.log.length c' r.s.log ∧ Chg (fun _ => False) w w') := by
  obtain ⟨A, n, c, hr⟩ := h.rep
  refine (rstate_any hr h.ok).mono ?_
  rintro e' w' ⟨A', n', c', rfl, hat, hc⟩
  obtain rfl := hat.1
  exact ⟨A', c', rfl, hat, hc⟩
/-- What a call makes of a replica and its messages. -/
def Did (w : World) (p b1 b2 b3 : Nat) (X : Nat → Prop) (r' : Rp) (v : Value → Value) (e' : Ending) (w' : World) : Prop :=
  ∃ A c, e' = .returned (v (.slice A r'.out.length c)) ∧ RQ w' p b1 b2 b3 X { r' with out := [] } ∧ Vec msgK 41 w' (fun k => w.heap.size ≤ k) (fun k => w.heap.size ≤ k) (.slice A r'.out.length c) r'.out ∧ Chg (M4 p b1 b2 b3) w w'
theorem rq_submit {w : World} {p b1 b2 b3 : Nat} {X : Nat → Prop} {r : Rp} (h : RQ w p b1 b2 b3 X r) {e : Entry} {R : Nat → Prop} {E1 : Option Addr} {m1 d1 : Nat} {E2 : Option Addr} {m2 d2 : Nat} (he : EntryAt w R e E1 m1 d1 E2 m2 d2) :
    Calls Try.prog 40 #[.pointer (some ⟨p, 0, none⟩), .agg #[.int .i64 e.view, .int .i64 e.client, .int .i64 e.request, .int .i64 e.dflt, .int .i64 e.closed, .int .i64 e.fuel, .int .i64 e.stack, .slice E1 m1 d1, .slice E2 m2 d2]] w (Did w p b1 b2 b3 X (submitR r e).1 (fun O => .tuple #[O, .int .i64 (submitR r e).2])) := by
  obtain ⟨A, n, c, hr⟩ := h.rep
  exact (submit_any hr he h.ok h.out).mono (fun e' w' h' => h'.rq (h.ok.submit e))
theorem rq_deliver {w : World} {p b1 b2 b3 : Nat} {X : Nat → Prop} {r : Rp} (h : RQ w p b1 b2 b3 X r) {m : Msg} {R : Nat → Prop} {B : Option Addr} {k d : Nat} (hm : Ty.At entryK w R B k d m.log) (hR : ∀ j, R j → j < w.heap.size → ¬ M4 p b1 b2 b3 j) :
    Calls Try.prog 18 #[.pointer (some ⟨p, 0, none⟩), .agg #[.int .i64 m.kind, .int .i64 m.view, .int .i64 m.src, .int .i64 m.dst, .int .i64 m.op, .int .i64 m.commit, .int .i64 m.normal, .slice B k d]] w (Did w p b1 b2 b3 X (deliverR r m).1 (fun O => .tuple #[O, .int .i64 (deliverR r m).2])) := by
  obtain ⟨A, n, c, hr⟩ := h.rep
  exact (deliver_any hr hm hR h.ok h.out).mono (fun e' w' h' => h'.rq (h.ok.deliver m))
set_option maxHeartbeats 4000000 in
set_option maxRecDepth 100000 in
theorem entry15_any (c q : Int) (w : World) : Calls Try.prog 39 #[.int .i64 c, .int .i64 q] w fun e' w' => e' = .returned (.agg #[.int .i64 0, .int .i64 c, .int .i64 q, .int .i64 (-1), .int .i64 (-1), .int .i64 (-1), .int .i64 (-1), .slice none 0 0, .slice none 0 0]) ∧ Chg (fun _ => False) w w' := by
  go_enter Try.func39, Try.ntmps39
  go_wp2_with fail
  obtain ⟨W, hW⟩ : ∃ q_, q_ = w.alloc (.cells #[.int .i64 0, .int .i64 c, .int .i64 q, .int .i64 (-1), .int .i64 (-1), .int .i64 (-1), .int .i64 (-1), .slice none 0 0, .slice none 0 0] 56) := ⟨_, rfl⟩
  rw [← hW]
  have BX2 := hid (show W.heap[w.heap.size]? = some (.cells #[.int .i64 0, .int .i64 c, .int .i64 q, .int .i64 (-1), .int .i64 (-1), .int .i64 (-1), .int .i64 (-1), .slice none 0 0, .slice none 0 0] 56 (0, 0)) by rw [hW]; exact blk_new w _)
  have CW := hid (show Chg (fun _ => False) w W by rw [hW]; exact (Chg.refl _ w).alloc _)
  clear hW
  have z0 : W.cell? ⟨w.heap.size, 0, none⟩ = some (.int .i64 0) := (cellAt BX2.out 0).trans rfl
  have z1 : W.cell? ⟨w.heap.size, 1, none⟩ = some (.int .i64 c) := (cellAt BX2.out 1).trans rfl
  have z2 : W.cell? ⟨w.heap.size, 2, none⟩ = some (.int .i64 q) := (cellAt BX2.out 2).trans rfl
  have z3 : W.cell? ⟨w.heap.size, 3, none⟩ = some (.int .i64 (-1)) := (cellAt BX2.out 3).trans rfl
  have z4 : W.cell? ⟨w.heap.size, 4, none⟩ = some (.int .i64 (-1)) := (cellAt BX2.out 4).trans rfl
  have z5 : W.cell? ⟨w.heap.size, 5, none⟩ = some (.int .i64 (-1)) := (cellAt BX2.out 5).trans rfl
  have z6 : W.cell? ⟨w.heap.size, 6, none⟩ = some (.int .i64 (-1)) := (cellAt BX2.out 6).trans rfl
  have z7 : W.cell? ⟨w.heap.size, 7, none⟩ = some (.slice none 0 0) := (cellAt BX2.out 7).trans rfl
  have z8 : W.cell? ⟨w.heap.size, 8, none⟩ = some (.slice none 0 0) := (cellAt BX2.out 8).trans rfl
  refine bodyPost_ret (v := .agg #[.int .i64 0, .int .i64 c, .int .i64 q, .int .i64 (-1), .int .i64 (-1), .int .i64 (-1), .int .i64 (-1), .slice none 0 0, .slice none 0 0]) (by simp [results, Try.results39, go_sem, z0, z1, z2, z3, z4, z5, z6, z7, z8]) rfl ?_
  exact ⟨rfl, CW.out⟩
end Go.Proofs.Ytaldoajdhbndhaa.Pa


/- The anchor of the statements about replicas. -/

namespace Go.Proofs.Ytaldoajdhbndhaa.Pa

set_option linter.unusedVariables false

set_option linter.unusedSimpArgs false

open Go.RowKit Go.Proofs.Ytaldoajdhbndhaa.C

attribute [local go_sem] max2_int min2_int max_two min_two

def e15 : Entry := ⟨0, 1, 1, -1, -1, -1, -1, [], []⟩
def ra15 : Rp := newR 3 0 5 st0
def rb15 : Rp := newR 3 1 5 st0
def ra15' : Rp := { (submitR ra15 e15).1 with out := [] }
def m15 : Msg := ⟨1, 0, 0, 1, 1, 0, 0, [e15]⟩
def n15 : Msg := ⟨2, 0, 1, 0, 1, 0, 0, []⟩
theorem a15_1 : (submitR ra15 e15).1.out = [m15, { m15 with dst := 2 }] := by rfl
theorem a15_2 : (submitR ra15 e15).2 = 0 := by rfl
theorem a15_3 : (deliverR rb15 m15).1.out = [n15] := by rfl
theorem a15_4 : (deliverR rb15 m15).2 = 0 := by rfl
theorem a15_5 : (deliverR ra15' n15).2 = 0 := by rfl
theorem a15_6 : (deliverR ra15' n15).1.s.commit = 1 := by rfl
theorem a15_7 : (deliverR rb15 m15).1.s.commit = 0 := by rfl
def ra15'' : Rp := { (deliverR ra15' n15).1 with out := [] }
def rb15' : Rp := { (deliverR rb15 m15).1 with out := [] }
theorem a15_8 : roleR ra15 = 1 ∧ roleR rb15 = 0 := by decide
/-- The first of some messages, in memory. -/
theorem vec_head {w : World} {S D : Nat → Prop} {A : Option Addr} {n c : Nat} {m : Msg} {l : List Msg} (h : Vec msgK 41 w S D (.slice A n c) (m :: l)) : ∃ g B k d, A = some ⟨g, 0, none⟩ ∧ S g ∧ g < w.heap.size ∧ Ty.At entryK w (fun j => D j ∧ j ≠ g ∧ j < w.heap.size) B k d m.log ∧ ∀ W, Chg (fun _ => False) w W → W.cell? ⟨g, 0, none⟩ = some (.int .i64 m.kind) ∧ W.cell? ⟨g, 1, none⟩ = some (.int .i64 m.view) ∧ W.cell? ⟨g, 2, none⟩ = some (.int .i64 m.src) ∧ W.cell? ⟨g, 3, none⟩ = some (.int .i64 m.dst) ∧ W.cell? ⟨g, 4, none⟩ = some (.int .i64 m.op) ∧ W.cell? ⟨g, 5, none⟩ = some (.int .i64 m.commit) ∧ W.cell? ⟨g, 6, none⟩ = some (.int .i64 m.normal) ∧ W.cell? ⟨g, 7, none⟩ = some (.slice B k d) := by
  obtain ⟨g, cs, rfl, hg, hlt, hK, hc⟩ := h.get (by decide) (i := 0) (x := m) rfl
  have hK' : msgK.K w (fun j => D j ∧ j ≠ g ∧ j < w.heap.size) m cs.toArray.toList := by rw [List.toList_toArray]; exact hK
  obtain ⟨B, k, d, e2, hm⟩ := msg_open hK'
  have e3 := congrArg Array.toList e2
  rw [List.toList_toArray] at e3
  subst e3
  refine ⟨g, B, k, d, rfl, hg, hlt, hm, fun W hW => ?_⟩
  have h' : ∀ j u, ([.int .i64 m.kind, .int .i64 m.view, .int .i64 m.src, .int .i64 m.dst, .int .i64 m.op, .int .i64 m.commit, .int .i64 m.normal, .slice B k d] : List Value)[j]? = some u → W.cell? ⟨g, j, none⟩ = some u := fun j u hj => by
    have := hW.cell (hc j u hj) (fun h => h)
    rwa [Nat.zero_mul, Nat.zero_add] at this
  exact ⟨h' 0 _ rfl, h' 1 _ rfl, h' 2 _ rfl, h' 3 _ rfl, h' 4 _ rfl, h' 5 _ rfl, h' 6 _ rfl, h' 7 _ rfl⟩
set_option maxHeartbeats 4000000 in
set_option maxRecDepth 100000 in
theorem anchor15_any (w : World) : Calls Try.prog 11 #[] w fun e w' => e = .returned (.bool true) ∧ Chg (fun _ => False) w w' := by
  go_enter Try.func11, Try.ntmps11
  go_wp2_with fail
  refine (rnew_any (R := fun _ => False) (n := 3) (id := 0) (tm := 5) (s := st0) (k := 0) (at_nil_ _ _ _) (by decide) ⟨by decide, by decide, by decide⟩).mono ?_
  intro e1 w1 h1
  obtain ⟨p, b1, b2, b3, rfl, hb, hq, k1⟩ := RQ.of_new h1 (by decide) (by decide)
  have HB := hid hb
  have QA := hid (show RQ w1 p b1 b2 b3 (fun k => M4 p b1 b2 b3 k ∨ (¬ False ∧ k < w.heap.size)) ra15 from hq)
  have K1 := hid k1
  clear h1 hb hq k1
  go_wp2_with fail
  refine (rnew_any (R := fun _ => False) (n := 3) (id := 1) (tm := 5) (s := st0) (k := 0) (at_nil_ _ _ _) (by decide) ⟨by decide, by decide, by decide⟩).mono ?_
  intro e2 w2 h2
  obtain ⟨q, c1, c2, c3, rfl, hb, hq, k2⟩ := RQ.of_new h2 (by decide) (by decide)
  have HC := hid hb
  have K2 := hid (K1.out.trans k2 (fun _ h _ => h))
  obtain ⟨X, hX⟩ : ∃ X : Nat → Prop, ∀ k, X k ↔ (M4 p b1 b2 b3 k ∨ M4 q c1 c2 c3 k) := ⟨_, fun _ => Iff.rfl⟩
  have HX := hid hX
  replace QA := hid ((QA.out.widen k2 hb).less (X' := X) (fun k hk => (hX k).2 (.inl hk)) (fun k hk => by rcases (hX k).1 hk with h | h; exact .inl (.inl h); exact .inr h))
  have QB := hid (show RQ w2 q c1 c2 c3 X rb15 from hq.less (X' := X) (fun k hk => (hX k).2 (.inr hk)) (fun k hk => by rcases (hX k).1 hk with h | h; exact .inr ⟨fun h => h, (HB.out k h).2⟩; exact .inl h))
  have DJ := hid (show ∀ k, M4 p b1 b2 b3 k → ¬ M4 q c1 c2 c3 k from fun k h1 h2 => by have := (HB.out k h1).2; have := (HC.out k h2).1; omega)
  have NEW := hid (show ∀ k, X k → w.heap.size ≤ k from fun k hk => by rcases (hX k).1 hk with h | h; exact (HB.out k h).1; exact Nat.le_trans K1.out.size (HC.out k h).1)
  clear h2 hb hq k2 hX
  go_wp2_with fail
  refine (rq_role QA.out).mono ?_
  rintro e w3 ⟨rfl, k3⟩
  rw [a15_8.1]
  have K3 := hid (K2.out.trans k3 (fun _ h _ => h))
  replace QA := hid (QA.out.far k3)
  replace QB := hid (QB.out.far k3)
  clear k3
  go_wp2_with fail
  refine (rq_role QB.out).mono ?_
  rintro e w4 ⟨rfl, k4⟩
  rw [a15_8.2]
  have K4 := hid (K3.out.trans k4 (fun _ h _ => h))
  replace QA := hid (QA.out.far k4)
  replace QB := hid (QB.out.far k4)
  clear k4
  go_wp2_with fail
  refine (entry15_any 1 1 _).mono ?_
  rintro e w5 ⟨rfl, k5⟩
  have K5 := hid (K4.out.trans k5 (fun _ h _ => h))
  replace QA := hid (QA.out.far k5)
  replace QB := hid (QB.out.far k5)
  clear k5
  go_wp2_with fail
  refine (rq_submit QA.out (e := e15) (R := fun _ => False) ⟨by decide, at_nil_ _ _ _, at_nil_ _ _ _⟩).mono ?_
  rintro e w6 ⟨A, c, rfl, hq, hv, k6⟩
  rw [a15_1, a15_2]
  rw [a15_1] at hv
  have K6 := hid (show Chg (fun k => X k) w w6 from (K5.out.mono (S' := fun k => X k) (fun _ h _ => h.elim)).trans k6 (fun k hk _ => (HX.out k).2 (.inl hk)))
  have S5 := hid (show ∀ k, X k → k < w5.heap.size from fun k hk => by rcases (HX.out k).1 hk with h | h; exact QA.out.lt k h; exact QB.out.lt k h)
  have Z6 := hid k6.size
  replace QA := hid (show RQ w6 p b1 b2 b3 X ra15' from hq)
  replace QB := hid (QB.out.chg k6 (fun k hk _ => ⟨(HX.out k).2 (.inl hk), DJ.out k hk⟩))
  clear hq k6
  rw [show ([m15, { m15 with dst := 2 }] : List Msg).length = 2 from rfl]
  replace hv : Vec msgK 41 w6 (fun k => w5.heap.size ≤ k) (fun k => w5.heap.size ≤ k) (.slice A 2 c) [m15, { m15 with dst := 2 }] := hv
  obtain ⟨g, B, k, d, rfl, hg, hlt, hm, hcells⟩ := vec_head hv
  have HM := hid hm
  have HG := hid hg
  obtain ⟨o0, o1, o2, o3, o4, o5, o6, o7⟩ := hcells _ (Chg.refl _ w6)
  have O_0 : w6.cell? ⟨g, 0, none⟩ = some (.int .i64 1) := o0
  have O_1 : w6.cell? ⟨g, 1, none⟩ = some (.int .i64 0) := o1
  have O_2 : w6.cell? ⟨g, 2, none⟩ = some (.int .i64 0) := o2
  have O_3 : w6.cell? ⟨g, 3, none⟩ = some (.int .i64 1) := o3
  have O_4 : w6.cell? ⟨g, 4, none⟩ = some (.int .i64 1) := o4
  have O_5 : w6.cell? ⟨g, 5, none⟩ = some (.int .i64 0) := o5
  have O_6 : w6.cell? ⟨g, 6, none⟩ = some (.int .i64 0) := o6
  have O_7 := o7
  clear hcells o0 o1 o2 o3 o4 o5 o6 o7 hv hm hg hlt
  go_wp2_with fail
  clear O_0 O_1 O_2 O_3 O_4 O_5 O_6 O_7
  refine (rq_deliver QB.out (m := m15) HM.out (fun j hj _ e => by have h1 := S5.out j ((HX.out j).2 (.inr e)); have h2 := hj.1; omega)).mono ?_
  rintro e w7 ⟨A7, c7, rfl, hq, hv, k7⟩
  rw [a15_3, a15_4]
  rw [a15_3] at hv
  rw [show ([n15] : List Msg).length = 1 from rfl]
  have K7 := hid (K6.out.trans k7 (fun k hk _ => (HX.out k).2 (.inr hk)))
  have S6 := hid (show ∀ k, X k → k < w6.heap.size from fun k hk => by have := S5.out k hk; have := Z6.out; omega)
  have Z7 := hid k7.size
  replace QB := hid (show RQ w7 q c1 c2 c3 X rb15' from hq)
  replace QA := hid (QA.out.chg k7 (fun k hk _ => ⟨(HX.out k).2 (.inr hk), fun e => DJ.out k e hk⟩))
  clear hq k7
  replace hv : Vec msgK 41 w7 (fun k => w6.heap.size ≤ k) (fun k => w6.heap.size ≤ k) (.slice A7 1 c7) [n15] := hv
  obtain ⟨g7, B7, j7, d7, rfl, hg, hlt, hm, hcells⟩ := vec_head hv
  have HM7 := hid hm
  obtain ⟨o0, o1, o2, o3, o4, o5, o6, o7⟩ := hcells _ (Chg.refl _ w7)
  have O_0 : w7.cell? ⟨g7, 0, none⟩ = some (.int .i64 2) := o0
  have O_1 : w7.cell? ⟨g7, 1, none⟩ = some (.int .i64 0) := o1
  have O_2 : w7.cell? ⟨g7, 2, none⟩ = some (.int .i64 1) := o2
  have O_3 : w7.cell? ⟨g7, 3, none⟩ = some (.int .i64 0) := o3
  have O_4 : w7.cell? ⟨g7, 4, none⟩ = some (.int .i64 1) := o4
  have O_5 : w7.cell? ⟨g7, 5, none⟩ = some (.int .i64 0) := o5
  have O_6 : w7.cell? ⟨g7, 6, none⟩ = some (.int .i64 0) := o6
  have O_7 := o7
  clear hcells o0 o1 o2 o3 o4 o5 o6 o7 hv hm hg hlt
  go_wp2_with fail
  clear O_0 O_1 O_2 O_3 O_4 O_5 O_6 O_7
  refine (rq_deliver QA.out (m := n15) HM7.out (fun j hj _ e => by have h1 := S6.out j ((HX.out j).2 (.inl e)); have h2 := hj.1; omega)).mono ?_
  rintro e w8 ⟨A8, c8, rfl, hq, hv, k8⟩
  rw [a15_5]
  have K8 := hid (K7.out.trans k8 (fun k hk _ => (HX.out k).2 (.inl hk)))
  replace QA := hid (show RQ w8 p b1 b2 b3 X ra15'' from hq)
  replace QB := hid (QB.out.chg k8 (fun k hk _ => ⟨(HX.out k).2 (.inl hk), DJ.out k hk⟩))
  clear hq k8 hv
  go_wp2_with fail
  refine (rq_state QA.out).mono ?_
  rintro e w9 ⟨A9, c9, rfl, hat, k9⟩
  rw [show ra15''.s.commit = 1 from a15_6]
  have hfd := st_field2
  have K9 := hid (K8.out.trans k9 (fun _ h _ => h.elim))
  replace QB := hid (QB.out.far k9)
  clear hat k9
  go_wp2_with fail
  refine (rq_state QB.out).mono ?_
  rintro e w10 ⟨A10, c10, rfl, hat, k10⟩
  rw [show rb15'.s.commit = 0 from a15_7]
  have K10 := hid (K9.out.trans k10 (fun _ h _ => h.elim))
  clear hat k10
  go_wp2_with fail
  go_ret
  exact ⟨rfl, K10.out.mono (fun k hk hl => by have := NEW.out k hk; omega)⟩
end Go.Proofs.Ytaldoajdhbndhaa.Pa


/- A step of a replica, and which steps can be gone through with. -/

namespace Go.Proofs.Ytaldoajdhbndhaa.Pa

set_option linter.unusedVariables false

set_option linter.unusedSimpArgs false

open Go.RowKit Go.Proofs.Ytaldoajdhbndhaa.C

attribute [local go_sem] max2_int min2_int max_two min_two

theorem Did.none_ {w w' : World} {p b1 b2 b3 : Nat} {X : Nat → Prop} {r : Rp} {v : Value → Value} {e' : Ending} (h : RQ w p b1 b2 b3 X r) (hc : Chg (fun _ => False) w w') (he : e' = .returned (v (.slice none 0 0))) : Did w p b1 b2 b3 X r v e' w' :=
  ⟨none, 0, by rw [h.out]; exact he, by rw [out_nil h.out]; exact h.far hc, by rw [h.out]; exact Vec.nil _ _ _ _ _, hc.mono (fun _ h _ => h.elim)⟩
end Go.Proofs.Ytaldoajdhbndhaa.Pa
