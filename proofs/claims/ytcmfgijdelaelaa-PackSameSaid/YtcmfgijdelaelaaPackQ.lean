
/- The contract of the document's num that writes. -/

import Derived.Test.YtcmfgijdelaelaaPackK

import Derived.IntWalk

namespace Go.Proofs.Ytcmfgijdelaelaa.Pa

set_option linter.unusedVariables false

set_option linter.unusedSimpArgs false

open Go.RowKit Go.Proofs.Ytcmfgijdelaelaa.C

attribute [local go_sem] max2_int min2_int max_two min_two

/-- A slice of one's own that holds the bytes x; its memory lies in S. -/
structure Byt (w : World) (S : Nat → Prop) (v : Value) (x : List UInt8) : Prop where
  row : w.ownsRow 0 5 1 v x.length (u8s x)
  rowS : ∀ k, v.ownBlock = some k → S k
theorem Byt.nil (w : World) (S : Nat → Prop) : Byt w S (.slice none 0 0) [] := ⟨own_nil _ _ _, fun k hk => by simp [Value.ownBlock] at hk⟩
theorem Byt.chg {w w' : World} {S M : Nat → Prop} {v : Value} {x : List UInt8} (h : Byt w S v x) (hc : Chg M w w') (hd : ∀ k, S k → ¬ M k) : Byt w' S v x := ⟨hc.own h.row (fun k hk => hd k (h.rowS k hk)), h.rowS⟩
theorem Byt.mono {w : World} {S S' : Nat → Prop} {v : Value} {x : List UInt8} (h : Byt w S v x) (hS : ∀ k, k < w.heap.size → S k → S' k) : Byt w S' v x := ⟨h.row, fun k hk => hS k (own_lt h.row k hk) (h.rowS k hk)⟩
theorem Byt.bound {w : World} {S : Nat → Prop} {v : Value} {x : List UInt8} (h : Byt w S v x) : Byt w (fun k => S k ∧ k < w.heap.size) v x := h.mono (fun _ hl h => ⟨h, hl⟩)
theorem Byt.form {w : World} {S : Nat → Prop} {v : Value} {x : List UInt8} (h : Byt w S v x) : ∃ A c, v = .slice A x.length c := by
  obtain ⟨A, c, hv, _⟩ := own_sees h.row
  exact ⟨A, c, hv⟩
/-- More was written. -/
structure ByTo (S : Nat → Prop) (x : List UInt8) (w w' : World) (v : Value) : Prop where
  byt : Byt w' (fun k => S k ∨ w.heap.size ≤ k) v x
  chg : Chg S w w'
theorem ByTo.refl {S : Nat → Prop} {x : List UInt8} {w : World} {v : Value} (h : Byt w S v x) : ByTo S x w w v := ⟨h.mono (fun _ _ h => .inl h), Chg.refl _ _⟩
theorem ByTo.trans {S : Nat → Prop} {x y : List UInt8} {w w1 w2 : World} {v v' : Value} (h : ByTo S x w w1 v) (k : ByTo (fun k => S k ∨ w.heap.size ≤ k) y w1 w2 v') : ByTo S y w w2 v' := by
  refine ⟨k.byt.mono (fun j _ hj => ?_), h.chg.trans k.chg (fun j hj hlt => ?_)⟩
  · rcases hj with (hj | hj) | hj
    · exact .inl hj
    · exact .inr hj
    · exact .inr (Nat.le_trans h.chg.size hj)
  · rcases hj with hj | hj
    · exact hj
    · omega
theorem ByTo.pre {S S0 : Nat → Prop} {y : List UInt8} {w w1 w2 : World} {v : Value} (h : Chg (fun _ => False) w w1) (k : ByTo S0 y w1 w2 v) (hS : ∀ k, S0 k → S k ∨ w.heap.size ≤ k) : ByTo S y w w2 v := by
  refine ⟨k.byt.mono (fun j _ hj => ?_), (h.mono (fun _ h _ => h.elim)).trans k.chg (fun j hj hlt => ?_)⟩
  · rcases hj with hj | hj
    · exact hS j hj
    · exact .inr (Nat.le_trans h.size hj)
  · rcases hS j hj with hj | hj
    · exact hj
    · omega
theorem ByTo.drewN {S : Nat → Prop} {y : List UInt8} {w w' : World} {v : Value} (h : ByTo S y w w' v) (q : Nat) : ByTo S y w (w'.drewN q) v := ⟨h.byt.chg ((Chg.refl (fun _ => False) w').drewN q) (fun _ _ h => h), h.chg.drewN q⟩
theorem ByTo.drew {S : Nat → Prop} {y : List UInt8} {w w' : World} {v : Value} (h : ByTo S y w w' v) : ByTo S y w w'.drew v := ⟨h.byt.chg ((Chg.refl (fun _ => False) w').drew) (fun _ _ h => h), h.chg.drew⟩

/-- Something was appended. -/
theorem ByTo.app {S : Nat → Prop} {x y : List UInt8} {w w1 w2 : World} {v v' : Value} (h : ByTo S x w w1 v) (h1 : w2.ownsRow 0 5 1 v' y.length (u8s y)) (h2 : Chg (fun k => v.ownBlock = some k) w1 w2) (h3 : ∀ k, v'.ownBlock = some k → v.ownBlock = some k ∨ w1.heap.size ≤ k) : ByTo S y w w2 v' := by
  refine ⟨⟨h1, fun k hk => ?_⟩, h.chg.trans h2 (fun k hk hl => ?_)⟩
  · rcases h3 k hk with q | q
    · exact h.byt.rowS k q
    · exact .inr (Nat.le_trans h.chg.size q)
  · rcases h.byt.rowS k hk with q | q
    · exact q
    · omega
/-- The last j of the six bytes are written. -/
def sixAt (m j : Nat) : List UInt8 := List.replicate (6 - j) 0 ++ (six m).drop (6 - j)
theorem sixAt_len (m j : Nat) (h : j ≤ 6) : (sixAt m j).length = 6 := by
  unfold sixAt
  rw [List.length_append, List.length_replicate, List.length_drop, six_len]
  omega
theorem sixAt_set {m j : Nat} (h : j < 6) : (u8s (sixAt m j)).toArray.setIfInBounds (5 - j) (.int .u8 (((UInt8.ofNat (m / 2 ^ (8 * j))).toNat : Nat) : Int)) = (u8s (sixAt m (j + 1))).toArray := by
  have : j = 0 ∨ j = 1 ∨ j = 2 ∨ j = 3 ∨ j = 4 ∨ j = 5 := by omega
  rcases this with rfl | rfl | rfl | rfl | rfl | rfl <;> simp [sixAt, six, u8s, List.replicate]
theorem sixAt_done (m : Nat) : sixAt m 6 = six m := by simp [sixAt]

set_option maxHeartbeats 2000000 in
set_option maxRecDepth 100000 in
theorem refnum_any {w : World} {S : Nat → Prop} {v : Value} {x : List UInt8} {n : Int} (h : Byt w S v x) (hok : NumOk n) (hx : x.length ≤ 1000000000) :
    Calls Try.prog 41 #[v, .int .i64 n] w fun e w' => ∃ v', e = .returned v' ∧ ByTo S (x ++ num n) w w' v' := by
  have H := hid h
  obtain ⟨h1, h2⟩ := hok
  obtain ⟨m, hm⟩ : ∃ m : Nat, n + 1 = (m : Int) := ⟨(n + 1).toNat, by omega⟩
  have hmb : m ≤ 1099511627777 := by omega
  have hnum : num n = six m := by unfold num; rw [Int.emod_eq_of_lt (by omega) (by omega), hm]; rfl
  have HNUM := hid hnum
  have en : IntKind.i64.wrap (n + 1) = (m : Int) := by rw [hm]; exact IntWalk.i64_in _ (by omega)
  clear h h1 h2 hm hnum
  go_enter Try.func41, Try.ntmps41
  go_wp2_with fail
  obtain ⟨w1, hw1⟩ : ∃ w1, w1 = w.alloc (.cells #[.int .u8 0, .int .u8 0, .int .u8 0, .int .u8 0, .int .u8 0, .int .u8 0] 109) := ⟨_, rfl⟩
  have C1 := hid (show Chg (fun _ => False) w w1 by rw [hw1]; exact (Chg.refl _ w).alloc _)
  have B1 := hid (show w1.heap[w.heap.size]? = some (.cells (u8s (sixAt m 0)).toArray 109 (0, 0)) by rw [hw1]; exact blk_new w _)
  rw [← hw1]
  clear hw1 en
  go_loopw [1, 6] (fun t i wr => ∃ (j q : Nat), j ≤ 6 ∧ i = .int .i64 (5 - (j : Int)) ∧ q = m / 2 ^ (8 * j) ∧ t = .int .i64 (q : Int) ∧ q ≤ 1099511627777 ∧ wr.heap[w.heap.size]? = some (.cells (u8s (sixAt m j)).toArray 109 (0, 0)) ∧ Chg (fun k => k = w.heap.size) w1 wr) (fun _ i _ => (intOf i + 1).toNat)
  case atStart => exact ⟨0, m, Nat.zero_le _, rfl, by simp, rfl, hmb, B1.out, Chg.refl _ _⟩
  case round =>
    obtain ⟨j, q, hj, rfl, hq, rfl, hqb, hB, hC⟩ := hrel
    have HQ := hid hq
    have HB := hid hB
    have HC := hid hC
    clear hq hB hC
    by_cases hlt : j < 6
    · have hj0 : (0 : Int) ≤ 5 - (j : Int) := by omega
      have fz : wr.frozen? ⟨w.heap.size, 5 - j, none⟩ = false := freeAt HB.out _
      obtain ⟨u0, cz⟩ : ∃ u0, wr.cell? ⟨w.heap.size, 5 - j, none⟩ = some u0 := ⟨_, by rw [cellAt HB.out]; exact Array.getElem?_eq_getElem (by simp [sixAt_len m j hj]; omega)⟩
      have et : (5 - (j : Int)).toNat = 5 - j := by omega
      have HN := hid (show (wr.setCell ⟨w.heap.size, 5 - j, none⟩ (.int .u8 ((q : Int) % 256))).heap[w.heap.size]? = some (.cells (u8s (sixAt m (j + 1))).toArray 109 (0, 0)) from by
        have q1 := blk_set HB.out (5 - j) (.int .u8 ((q : Int) % 256))
        have q2 := sixAt_set (m := m) hlt
        rw [← HQ.out, toNat_ofNat] at q2
        rw [show ((q % 256 : Nat) : Int) = (q : Int) % 256 by omega] at q2
        rw [q2] at q1
        exact q1)
      have HCN := hid (HC.out.trans ((Chg.refl (fun k => k = w.heap.size) wr).set (p := ⟨w.heap.size, 5 - j, none⟩) (fun _ => rfl) (.int .u8 ((q : Int) % 256))) (fun _ h _ => h))
      have HQ2 := hid (show q / 256 = m / 2 ^ (8 * (j + 1)) by rw [HQ.out, Nat.div_div_eq_div_mul, show 8 * (j + 1) = 8 * j + 8 by omega, Nat.pow_add])
      go_wp2_with fail
      go_roundw
      case measure => simp [intOf]; omega
      case rel => first | exact ⟨j + 1, q / 256, hlt, by go_num, HQ2.out, by go_num, by omega, HN.out, HCN.out⟩ | ((repeat apply Exists.intro); exact ⟨⟨j + 1, q / 256, hlt, by go_num, HQ2.out, by go_num, by omega, HN.out, HCN.out⟩, rfl⟩)
    · have hj0 : ¬ (0 : Int) ≤ 5 - (j : Int) := by omega
      obtain rfl : j = 6 := by omega
      have HS := hid (show Sees wr (fun k => k = w.heap.size) (some ⟨w.heap.size, 0, none⟩) (u8s (six m)) from .inr ⟨_, rfl, rfl, fun i u hi => by rw [add_at, Nat.zero_add, cellAt HB.out, List.getElem?_toArray, sixAt_done]; exact hi⟩)
      have HCC := hid (show Chg (fun _ => False) w wr from C1.out.trans HC.out (fun k hk hlt => by omega))
      have HR := hid (H.out.chg HCC.out (fun _ _ h => h))
      go_wp2_with (first | (at_builtin; refine app_list _ rfl (.tmp 20) (.tmp 21) 25 5 (.int .u8 0) 1 1 rfl Try.underlying25 info5 rfl (by decide) (by decide) v x.length (u8s x) rfl HR.out.row (some ⟨w.heap.size, 0, none⟩) 6 6 (u8s (six m)) _ rfl (by simp) (by omega) (by rw [u8s_length]; rfl) HS.out (u8s_one _) (by omega) ?_; intro A' c' w2 h1 h2 h3; have G1 := hid h1; have G2 := hid h2; have G3 := hid h3; clear h1 h2 h3))
      go_ret
      refine ⟨_, rfl, ⟨?_, fun k hk => ?_⟩, HCC.out.mono (S' := S) (fun _ h _ => h.elim) |>.trans G2.out (fun k hk _ => H.out.rowS k hk)⟩
      · have e : (x ++ num n).length = x.length + 6 := by rw [List.length_append, num_len]
        rw [e, HNUM.out, u8s_append]
        exact G1.out
      · rcases G3.out k hk with q1 | q1
        · exact .inl (H.out.rowS k q1)
        · exact .inr (Nat.le_trans HCC.out.size q1)
end Go.Proofs.Ytcmfgijdelaelaa.Pa
