/- slices.SortFunc, slices.SortedFunc at ranges: the contracts. -/
import Derived.Test.YtoojifcpjbakgaaClassC
import Derived.Test.YtoojifcpjbakgaaClassQ
import Derived.Test.YtoojifcpjbakgaaClassSh
namespace Go.Proofs.Ytoojifcpjbakgaa.Cl
set_option linter.unusedVariables false
set_option linter.unusedSimpArgs false
open Go.RowKit Go.Proofs.Ytoojifcpjbakgaa.C Go.Shelf Go.Sort Go.Lib
attribute [local go_sem] max2_int min2_int max_two min_two

instance : Inhabited Rg := ⟨⟨0, 0⟩⟩
def rgEnc (r : Rg) : List Value := [.int .i64 r.lo, .int .i64 r.hi]
theorem rgc_get : ∀ (l : List Rg) (t : Nat), t < l.length * 2 → (rgc l)[t]? = some ((rgEnc l[t / 2]!)[t % 2]!)
  | [], t, h => by simp at h
  | r :: l, 0, h => by simp [rgc, rgEnc]
  | r :: l, 1, h => by simp [rgc, rgEnc]
  | r :: l, t + 2, h => by
    have ih := rgc_get l t (by simp at h; omega)
    have e1 : (t + 2) / 2 = t / 2 + 1 := by omega
    have e2 : (t + 2) % 2 = t % 2 := by omega
    rw [e1, e2]
    have e3 : rgc (r :: l) = .int .i64 r.lo :: .int .i64 r.hi :: rgc l := rfl
    rw [e3]
    simpa using ih
theorem flat_rgc (l : List Rg) : (flatK rgEnc 2 l.toArray).toList = rgc l := by
  apply List.ext_getElem?
  intro t
  by_cases h : t < l.length * 2
  · rw [rgc_get l t h]
    have h' : t < l.toArray.size * 2 := by simpa using h
    have := get_flatK rgEnc 2 l.toArray t h'
    rw [getElem!_pos _ _ (by simpa using h')] at this
    rw [Array.getElem?_toList, Array.getElem?_eq_getElem (by simpa using h'), this]
    simp
  · rw [List.getElem?_eq_none (by simpa using h), List.getElem?_eq_none (by rw [rgc_len]; omega)]
theorem flat_rgc' (l : List Rg) : flatK rgEnc 2 l.toArray = (rgc l).toArray := by
  rw [← flat_rgc]
theorem holds_id {w : World} {g : Nat} {cur : Array Value} {e : TypeId} {cs : List Value} (hb : w.heap[g]? = some (.cells cur e (0, 0))) (ht : cur.toList.take cs.length = cs) : Holds id w g 0 cs.toArray := by
  intro j hj
  have hj' : j < cs.length := by simpa using hj
  refine ⟨?_, by simp [World.frozen?, hb]⟩
  have h1 : (cur.toList.take cs.length)[j]? = cs[j]? := by rw [ht]
  rw [List.getElem?_take_of_lt hj'] at h1
  simp only [World.cell?, hb, Nat.zero_add]
  simp only [Option.isSome_none, Bool.false_eq_true, if_false]
  rw [← Array.getElem?_toList, h1]
  simp [hj']
theorem heap_id {w : World} {g n : Nat} {os : Array Obj} {cur : Array Value} {e : TypeId} {fr : Nat × Nat} (d : Array Value) (hb : w.heap[g]? = some (.cells cur e fr)) :
    (grow (putRow id (Sort.ahead w n) g 0 d) os).heap[g]? = some (.cells (putCells id 0 d cur) e fr) := by
  have hg : g < w.heap.size := (Array.getElem?_eq_some_iff.1 hb).1
  rw [heap_grow_old _ _ (by simpa using hg)]
  simp [putRow, mapBlock, Sort.ahead, Array.getElem?_modify, hb, onCells]
theorem chg_id {w : World} {g n : Nat} {os : Array Obj} (d : Array Value) : Chg (fun k => k = g) w (grow (putRow id (Sort.ahead w n) g 0 d) os) := by
  refine ⟨rfl, rfl, rfl, by simp, fun k hk hne => ?_⟩
  rw [heap_grow_old _ _ (by simpa using hk)]
  have : g ≠ k := fun e => hne e.symm
  simp [putRow, mapBlock, Sort.ahead, Array.getElem?_modify, this]
theorem take_id (cur : Array Value) (cs : List Value) (h : cs.length ≤ cur.size) : (putCells id 0 cs.toArray cur).toList.take cs.length = cs := by
  apply List.ext_getElem?
  intro j
  by_cases hj : j < cs.length
  · rw [List.getElem?_take_of_lt hj, Array.getElem?_toList]
    simp [putCells, hj, show j < cur.size by omega]
  · rw [List.getElem?_take_eq_none (by omega), List.getElem?_eq_none (by omega)]

/-! ### cmp.Compare, the closure -/
set_option maxHeartbeats 1000000 in
theorem nan_any (x : Int) (w : World) : Calls Try.prog 46 #[.int .i64 x] w fun e w' => e = .returned (.bool false) ∧ w' = w := by
  go_enter Try.func46, Try.ntmps46
  go_wp2
  go_ret
  exact ⟨rfl, rfl⟩
set_option maxHeartbeats 1000000 in
theorem compare_any (x y : Int) (w : World) : Calls Try.prog 40 #[.int .i64 x, .int .i64 y] w fun e w' => e = .returned (.int .i64 (Lib.compareInt x y)) ∧ w' = w := by
  have E := hid (show Lib.compareInt x y = if x < y then -1 else if y < x then 1 else 0 by unfold Lib.compareInt; rfl)
  by_cases h1 : x < y
  · have E1 := hid (show Lib.compareInt x y = -1 by rw [E.out, if_pos h1])
    go_enter Try.func40, Try.ntmps40
    go_wp2_with fail
    refine (nan_any _ _).mono ?_
    rintro e w2 ⟨rfl, rfl⟩
    go_wp2_with fail
    refine (nan_any _ _).mono ?_
    rintro e w2 ⟨rfl, rfl⟩
    go_wp2_with fail
    go_ret
    exact ⟨by rw [E1.out]; rfl, rfl⟩
  · by_cases h2 : y < x
    · have E1 := hid (show Lib.compareInt x y = 1 by rw [E.out, if_neg h1, if_pos h2])
      go_enter Try.func40, Try.ntmps40
      go_wp2_with fail
      refine (nan_any _ _).mono ?_
      rintro e w2 ⟨rfl, rfl⟩
      go_wp2_with fail
      refine (nan_any _ _).mono ?_
      rintro e w2 ⟨rfl, rfl⟩
      go_wp2_with fail
      go_ret
      exact ⟨by rw [E1.out]; rfl, rfl⟩
    · have E1 := hid (show Lib.compareInt x y = 0 by rw [E.out, if_neg h1, if_neg h2])
      go_enter Try.func40, Try.ntmps40
      go_wp2_with fail
      refine (nan_any _ _).mono ?_
      rintro e w2 ⟨rfl, rfl⟩
      go_wp2_with fail
      refine (nan_any _ _).mono ?_
      rintro e w2 ⟨rfl, rfl⟩
      go_wp2_with fail
      go_ret
      exact ⟨by rw [E1.out]; rfl, rfl⟩
set_option maxHeartbeats 1000000 in
theorem lo_any (x y : Rg) (W : World) : Calls Try.prog 39 #[.agg #[.int .i64 x.lo, .int .i64 x.hi], .agg #[.int .i64 y.lo, .int .i64 y.hi]] W fun e w' => e = .returned (.int .i64 (Lib.compareInt x.lo y.lo)) ∧ ∃ q os', w' = grow (W.drewN q) os' := by
  have H := hid (fun W' => compare_any x.lo y.lo W')
  generalize Lib.compareInt x.lo y.lo = r at H ⊢
  go_enter Try.func39, Try.ntmps39
  go_wp2_with fail
  refine (H.out _).mono ?_
  rintro e w' ⟨rfl, rfl⟩
  go_wp2_with fail
  go_ret
  exact ⟨rfl, 0, _, by rw [alloc_eq_grow, alloc_eq_grow, grow_grow]; rfl⟩
theorem lo_lays (blk off size : Nat) (w : World) : CmpLays Try.prog 39 #[] rgEnc 2 (fun x y : Rg => Lib.compareInt x.lo y.lo) blk off size w :=
  fun _ _ _ _ x y => lo_any x y _
theorem lo_lt (x y : Rg) : ltOf (fun x y : Rg => Lib.compareInt x.lo y.lo) x y = decide (x.lo < y.lo) := by
  unfold ltOf Lib.compareInt
  by_cases h1 : x.lo < y.lo
  · simp [h1]
  · by_cases h2 : y.lo < x.lo <;> simp [h1, h2]
theorem lo_swo : SWO (ltOf fun x y : Rg => Lib.compareInt x.lo y.lo) where
  irrefl x := by rw [lo_lt]; simp
  trans x y z h1 h2 := by rw [lo_lt] at *; simp at *; omega
  ntrans x y z h1 h2 := by rw [lo_lt] at *; simp at *; omega

/-- slices.SortFunc of a row of one's own. -/
theorem sort_any {b g cap : Nat} (l : List Rg) (w : World) (hl : l.length ≤ 1000000) (ho : w.ownsRow b 46 2 (.slice (some ⟨g, 0, none⟩) l.length cap) l.length (rgc l)) :
    Calls Try.prog 44 #[.slice (some ⟨g, 0, none⟩) l.length cap, .func (.func 39) #[] #[]] w fun e w' => e = .returned (.tuple #[]) ∧ ∃ l' : List Rg, l'.Perm l ∧ Sorted l' ∧ w'.ownsRow b 46 2 (.slice (some ⟨g, 0, none⟩) l.length cap) l.length (rgc l') ∧ Chg (fun k => k = g) w w' := by
  have eg : ∀ args w, (callFunc 39 args).run Try.prog w = .ok (.enter 39 args) w := enters_of Try.func39 (by kernel_rfl) rfl
  rcases ho.2 with ⟨h0, _⟩ | ⟨g', cap', cur, hv, hg, hb, hn, hcap, hcs, ht⟩
  · cases h0
  cases hv
  have hblk : g < w.heap.size := (Array.getElem?_eq_some_iff.1 hb).1
  have hH : HoldsK rgEnc 2 w g 0 l.toArray := by
    unfold HoldsK
    rw [flat_rgc']
    exact holds_id hb (by rw [rgc_len]; exact ht)
  have hcon := AnyQ.slices_SortFunc sortRg 2 Try.isAgg46 Try.sizeOf46 rgEnc (fun _ => rfl) (fun x v hv => by simp [rgEnc] at hv; rcases hv with rfl | rfl <;> rfl) (fun x y => Lib.compareInt x.lo y.lo) lo_swo 39 #[] g 0 cap l.toArray w eg (lo_lays g 0 l.toArray.size w) hH hblk (by simp; omega)
  change Calls Try.prog 44 _ _ _ at hcon
  refine (show Calls Try.prog 44 #[.slice (some ⟨g, 0, none⟩) l.length cap, .func (.func 39) #[] #[]] w _ from hcon).mono ?_
  rintro e w' ⟨rfl, d', n, os, hp, hs, rfl⟩
  obtain ⟨hp1, hp2, hp3⟩ := hp
  simp only [List.size_toArray] at hp1 hp3 hs
  have hp4 : d'.toList.Perm l := by
    have e1 : d'.extract 0 l.length = d' := by rw [← hp1]; simp
    have e2 : l.toArray.extract 0 l.length = l.toArray := by simp
    rw [e1, e2] at hp3
    simpa using hp3
  have hlen : d'.toList.length = l.length := by simpa using hp1
  have ed : d' = d'.toList.toArray := by simp
  refine ⟨rfl, d'.toList, hp4, ?_, ?_, ?_⟩
  · unfold Sorted
    rw [List.pairwise_iff_getElem]
    intro i j hi hj hij
    have := hs i j (Nat.zero_le _) hij (by rw [← hlen]; exact hj)
    rw [lo_lt] at this
    simp only [decide_eq_false_iff_not, Int.not_lt] at this
    simp only [Array.getElem_toList]
    rw [getElem!_pos d' j (by simpa using hj), getElem!_pos d' i (by simpa using hi)] at this
    exact this
  · refine ⟨by rw [rgc_len, hlen], .inr ⟨g, cap, putCells id 0 (rgc d'.toList).toArray cur, rfl, hg, ?_, hn, hcap, ?_, ?_⟩⟩
    · unfold sortWorldK putRowK
      rw [ed, flat_rgc']
      simpa using heap_id (n := n) (os := os) (rgc d'.toList).toArray hb
    · simpa [putCells] using hcs
    · have := take_id cur (rgc d'.toList) (by rw [rgc_len, hlen, hcs]; omega)
      rw [rgc_len, hlen] at this
      exact this
  · unfold sortWorldK putRowK
    exact chg_id _

/-! ### .. of none -/
set_option maxHeartbeats 1000000 in
theorem ins_nil (w : World) : Calls Try.prog 50 #[.slice none 0 0, .int .i64 0, .int .i64 0, .func (.func 39) #[] #[]] w fun e w' => e = .returned (.tuple #[]) ∧ w' = w := by
  go_enter Try.func50, Try.ntmps50
  go_wp2_with fail
  go_loopw [8] (fun i wr => i = .int .i64 1 ∧ wr = w) (fun i _ => 1)
  case atStart => exact ⟨rfl, rfl⟩
  case round =>
    obtain ⟨rfl, rfl⟩ := hrel
    go_wp2_with fail
    go_end0
    exact ⟨rfl, rfl⟩
set_option maxHeartbeats 1000000 in
theorem pdq_nil (w : World) : Calls Try.prog 48 #[.slice none 0 0, .int .i64 0, .int .i64 0, .int .i64 0, .func (.func 39) #[] #[]] w fun e w' => e = .returned (.tuple #[]) ∧ w' = w := by
  go_enter Try.func48, Try.ntmps48
  go_wp2_with fail
  go_loopw [1, 2] (fun a b wr => a = .int .i64 0 ∧ b = .int .i64 0 ∧ wr = w) (fun _ _ _ => 1)
  case atStart => exact ⟨rfl, rfl, rfl⟩
  case round =>
    obtain ⟨rfl, rfl, rfl⟩ := hrel
    go_wp2_with fail
    refine (ins_nil _).mono ?_
    rintro e w2 ⟨rfl, rfl⟩
    go_wp2_with fail
    refine bodyPost_ret (results_none rfl _ _ _) rfl ?_
    exact ⟨rfl, rfl⟩
set_option maxHeartbeats 1000000 in
theorem sort_nil (w : World) : Calls Try.prog 44 #[.slice none 0 0, .func (.func 39) #[] #[]] w fun e w' => e = .returned (.tuple #[]) ∧ w' = w := by
  have hl : Calls Try.prog 49 #[.int .u64 0] w fun e w' => e = .returned (.int .i64 0) ∧ w' = w := by
    have h := Any.bits_Len (SlLaysF0.n15.bits (P := Try.prog) (ρ := sortRg_ren) { sortRg with }) 0 w (by omega) (by omega)
    exact h
  have HL := hid hl
  clear hl
  go_enter Try.func44, Try.ntmps44
  go_wp2_with fail
  refine HL.out.mono ?_
  rintro e w2 ⟨rfl, rfl⟩
  go_wp2_with fail
  refine (pdq_nil _).mono ?_
  rintro e w2 ⟨rfl, rfl⟩
  go_wp2_with fail
  go_end0
  exact ⟨rfl, rfl⟩

set_option maxHeartbeats 1000000 in
/-- slices.SortedFunc of slices.Values. -/
theorem sorted_any (Bs len cap : Nat) (A : Option Addr) (zs : List Rg) (hlen : len ≤ 1000000) (w : World) (hBs : Bs < w.heap.size) (hc : w.cell? ⟨Bs, 0, none⟩ = some (.slice A len cap)) (hI : Ty.At rgK w (fun k => k < w.heap.size) A len cap zs) :
    Calls Try.prog 37 #[.func (.func 45) #[] #[.pointer (some ⟨Bs, 0, none⟩)], .func (.func 39) #[] #[]] w fun e w' => ∃ v l', e = .returned v ∧ l'.Perm zs ∧ Sorted l' ∧ w'.ownsRow w.heap.size 46 2 v zs.length (rgc l') ∧ Chg (fun _ => False) w w' := by
  have H := hid (collect_any Bs len cap A zs hlen w hBs hc hI)
  have HL := hid (show zs.length ≤ 1000000 by have := hI.1; omega)
  clear hc hI
  go_enter Try.func37, Try.ntmps37
  go_wp2_with fail
  refine H.out.mono ?_
  rintro e w2 ⟨v, rfl, h1, h2⟩
  have hB : Chg (fun _ => False) w w2 := (Chg.of_below h2).mono (fun i hi hlt => by omega)
  clear h2
  rcases h1.2 with ⟨rfl, hn⟩ | ⟨g, c, cur, rfl, hg, h6⟩
  · have H1 := hid h1
    have HB := hid hB
    have HN := hid hn
    clear h1 hB hn
    go_wp2_with fail
    refine (sort_nil _).mono ?_
    rintro e w3 ⟨rfl, rfl⟩
    go_wp2_with fail
    go_ret
    have e0 : zs = [] := List.eq_nil_of_length_eq_zero HN.out
    subst e0
    exact ⟨_, [], rfl, List.Perm.refl _, List.Pairwise.nil, H1.out, HB.out⟩
  · have H1 := hid h1
    have HB := hid hB
    have HG := hid hg
    clear h1 hB h6 hg
    obtain ⟨m, hm⟩ : ∃ m, m = zs.length := ⟨_, rfl⟩
    rw [← hm] at H1 ⊢
    have HM := hid hm
    clear hm
    go_wp2_with fail
    refine (show Calls Try.prog 44 #[.slice (some ⟨g, 0, none⟩) m c, .func (.func 39) #[] #[]] w2 _ from by rw [HM.out]; exact sort_any zs w2 HL.out (by have := H1.out; rwa [HM.out] at this)).mono ?_
    rintro e w3 ⟨rfl, l', h1, h2, h3, h4⟩
    have K1 := hid h1
    have K2 := hid h2
    have K3 := hid h3
    have K4 := hid h4
    clear h1 h2 h3 h4
    go_wp2_with fail
    go_ret
    exact ⟨_, l', rfl, K1.out, K2.out, (by show w3.ownsRow w.heap.size 46 2 (.slice (some ⟨g, 0, none⟩) m c) zs.length (rgc l'); rw [HM.out]; exact K3.out), HB.out.trans K4.out (fun i hi hlt => by have := HG.out; omega)⟩
end Go.Proofs.Ytoojifcpjbakgaa.Cl
