/- Texts of this claim, one behind the other: PackLe, PackG, PackRa, PackRb, PackRc, PackRd, PackRe, PackRf, PackRg, PackQ, PackQb, PackQc, PackSa, PackSb, PackSc. -/
import Derived.Test.YtfpjickdkkhndaaMB
import Derived.Shelf.Abstract
import Derived.IntWalk
import Derived.Laws.StructEq

/- The contracts of the codec's list at entries. -/

namespace Go.Proofs.Ytfpjickdkkhndaa.Pa

set_option linter.unusedVariables false

set_option linter.unusedSimpArgs false

open Go.RowKit Go.Proofs.Ytfpjickdkkhndaa.C

attribute [local go_sem] max2_int min2_int max_two min_two

theorem ents_next {xs : List (Entry)} {k : Nat} {r : Entry} (h : xs[k]? = some r) (y : List UInt8) : y ++ (xs.take k).flatMap entryB ++ entryB r = y ++ (xs.take (k + 1)).flatMap entryB := by
  rw [List.take_add_one, h, Option.toList_some, List.flatMap_append, List.append_assoc, List.flatMap_singleton]
theorem ents_len {xs : List (Entry)} (h : ∀ r ∈ xs, EntryOk r) (k : Nat) : ((xs.take k).flatMap entryB).length ≤ 110000 * k := by
  induction k with
  | zero => simp
  | succ k ih =>
    rw [List.take_add_one, List.flatMap_append, List.length_append]
    cases hx : xs[k]? with
    | none => rw [Option.toList_none, List.flatMap_nil, List.length_nil]; omega
    | some r =>
      have := entryB_len (h r (List.mem_of_getElem? hx))
      simp only [Option.toList_some, List.flatMap_singleton]
      omega

set_option maxHeartbeats 4000000 in
set_option maxRecDepth 100000 in
theorem ents_w {w : World} {S R : Nat → Prop} {g p o : Nat} {v : Value} {x : List UInt8} {A : Option Addr} {n c : Nat} {xs : List (Entry)} (h : Wr w S g v x) (hp : w.cell? ⟨p, o, none⟩ = some (.slice A n c)) (hpS : ¬ S p) (hl : Ty.At entryK w R A n c xs) (hR : ∀ k, R k → ¬ S k)
    (hok : ∀ r ∈ xs, EntryOk r) (hn : n ≤ 100) (hx : x.length ≤ 400000000) (least : Int) :
    Calls Try.prog 76 #[.pointer (some ⟨g, 0, none⟩), .pointer (some ⟨p, o, none⟩), .int .i64 least, .func (.func 77) #[.pointer (some ⟨g, 0, none⟩)] #[]] w fun e w' => e = .returned (.tuple #[]) ∧ WrTo S g (x ++ num n ++ xs.flatMap entryB) w w' := by
  have HB := hid h
  have HP := hid hp
  have HL := hid hl
  have HLB := hid hl.bound
  have HR := hid hR
  have HOK := hid hok
  have hn2 : (n : Int) ≤ 100 := by omega
  have eg : ∀ args w, (callFunc 77 args).run Try.prog w = .ok (.enter 77 args) w := Go.Proofs.enters_of Try.func77 (by kernel_rfl) rfl
  clear h hl hR hok
  go_enter Try.func76, Try.ntmps76
  go_wp2_with fail
  refine (count_w HB.out (n := (n : Int)) ⟨by omega, by omega⟩ (by omega) least).mono ?_
  rintro e w1 ⟨rfl, v1, h1, hc1⟩
  have H1 := hid h1
  have HC1 := hid hc1
  have hd2 := h1.cells.2.2.1
  have hp1 : w1.cell? ⟨p, o, none⟩ = some (.slice A n c) := hc1.cell HP.out hpS
  clear h1 hc1 hp
  go_wp2_with fail
  clear hd2 hp1
  go_loopw [28] (fun i wr => ∃ k : Nat, k ≤ n ∧ i = .int .i64 k ∧ WrTo S g (x ++ num n ++ (xs.take k).flatMap entryB) w wr) (fun i _ => n - (intOf i).toNat)
  case atStart => exact ⟨0, Nat.zero_le _, rfl, by simpa using ⟨v1, H1.out, HC1.out⟩⟩
  case round =>
    obtain ⟨k, hk, rfl, hT⟩ := hrel
    have HT := hid hT
    clear hT
    by_cases hlt : k < n
    · obtain ⟨r, hr⟩ : ∃ r, xs[k]? = some r := ⟨_, List.getElem?_eq_getElem (by have := HL.out.1; omega)⟩
      have HRO := hid (HOK.out r (List.mem_of_getElem? hr))
      obtain ⟨a, cs, ha, haR, hK, hcs⟩ := HLB.out.get (by decide) hr
      obtain ⟨E1, m1, d1, E2, m2, d2, rfl, hrw⟩ := entry_open (id hK)
      have HRW := hid hrw
      clear hrw
      subst ha
      have hcs2 : ∀ j u, (entryCells r E1 m1 d1 E2 m2 d2)[j]? = some u → wr.cell? (a.add (k * 9 + j)) = some u := fun j u hj => by
        obtain ⟨_, _, hc⟩ := HT.out
        exact hc.cell (hcs j u hj) (by rw [add_block]; exact HR.out _ haR.1)
      have x0 := elem_cell0 hcs2 _ rfl
      have x1 := elem_cell hcs2 0 _ rfl
      have x2 := elem_cell hcs2 1 _ rfl
      have x3 := elem_cell hcs2 2 _ rfl
      have x4 := elem_cell hcs2 3 _ rfl
      have x5 := elem_cell hcs2 4 _ rfl
      have x6 := elem_cell hcs2 5 _ rfl
      have x7 := elem_cell hcs2 6 _ rfl
      have x8 := elem_cell hcs2 7 _ rfl
      have HRR := hid (ents_next hr)
      clear hcs hK hcs2 hr haR
      have hlt2 : (k : Int) < (n : Int) := by omega
      obtain ⟨v2, hv2, hc2⟩ := HT.out
      have H2 := hid hv2.bound
      have HC2 := hid hc2
      have hlen : (x ++ num n ++ (xs.take k).flatMap entryB).length ≤ 450000000 := by
        have := ents_len HOK.out k
        rw [List.length_append, List.length_append, num_len]
        omega
      clear hv2 hc2
      go_wp2_with fail
      have CB := hid (show Chg (fun _ => False) wr (wr.alloc (.cells (entryCells r E1 m1 d1 E2 m2 d2).toArray 52)) from (Chg.refl _ wr).alloc _)
      refine (entry_w (S := fun k => (S k ∨ w.heap.size ≤ k) ∧ k < wr.heap.size) (R := fun k => R k ∧ k < w.heap.size) (e := r) (H2.out.chg CB.out (fun _ _ h => h)) (blk_new wr _) (fun hs => Nat.lt_irrefl _ hs.2) ((HRW.out.chg HC2.out (fun k hk => HR.out k hk.1)).chg CB.out (fun _ _ h => h)) (fun k hk hs => by rcases hs.1 with q | q; exact HR.out k hk.1 q; have := hk.2; omega) HRO.out (by omega)).mono ?_
      rintro e w3 ⟨rfl, h3⟩
      have HF := hid (HT.out.trans (WrTo.pre (S := fun k => S k ∨ w.heap.size ≤ k) CB.out h3 (fun k hk => .inl hk.1)))
      clear h3 x0 x1 x2 x3 x4 x5 x6 x7 x8
      rw [HRR.out] at HF
      go_wp2_with fail
      go_roundw
      case measure => simp [intOf]; omega
      case rel => first | exact ⟨k + 1, by omega, by go_num, HF.out⟩ | ((repeat apply Exists.intro); exact ⟨⟨k + 1, by omega, by go_num, HF.out⟩, rfl⟩)
    · clear eg
      go_wp2_with fail
      obtain rfl : k = n := by omega
      refine bodyPost_ret (results_none rfl _ _ _) rfl ?_
      have := HT.out
      rw [List.take_of_length_le (by have := HL.out.1; omega)] at this
      exact ⟨rfl, this⟩

/-- A list was read. -/
def EntsTo (w : World) (B g : Nat) (A : Option Addr) (n c : Nat) (b : List UInt8) (at_ : Nat) (bad : Bool) (p o tp : Nat) (cs : Array Value) (L : Nat) (w' : World) : Prop :=
  ∃ (xs : List (Entry)) (A' : Option Addr) (c' : Nat), xs.length ≤ n ∧ w'.heap[p]? = some (.cells (cs.setIfInBounds o (.slice A' xs.length c')) tp (0, 0)) ∧ Vec entryK 52 w' (fun k => w.heap.size ≤ k) (fun k => w.heap.size ≤ k) (.slice A' xs.length c') xs ∧ Chg (fun j => j = g ∨ j = p) w w' ∧ RdTo B g A n c b at_ bad (rdSeq L rdEntry) w' xs
/-- k of its elements were read; the count's end is at1. -/
structure EntsAt (w : World) (B g : Nat) (A : Option Addr) (n c : Nat) (b : List UInt8) (p o tp : Nat) (cs : Array Value) (Y : Option (List UInt8)) (k : Nat) (us : List (Entry)) (A' : Option Addr) (c' at' : Nat) (bad' : Bool) (wr : World) : Prop where
  len : us.length = k
  blk : wr.heap[p]? = some (.cells (cs.setIfInBounds o (.slice A' k c')) tp (0, 0))
  vec : Vec entryK 52 wr (fun k => w.heap.size ≤ k) (fun k => w.heap.size ≤ k) (.slice A' k c') us
  chg : Chg (fun j => j = g ∨ j = p) w wr
  rd : Rd wr B g A n c b at' bad'
  eq : Y.bind (rdList rdEntry k) = (left b at' bad').map fun r => (us, r)
theorem infoents : (Try.prog.info? 52).map (fun i => (i.zero, i.size, i.bytes)) = some (some (.agg #[.int .i64 0, .int .i64 0, .int .i64 0, .int .i64 0, .int .i64 0, .int .i64 0, .int .i64 0, .slice none 0 0, .slice none 0 0]), 9, 104) := by kernel_rfl
theorem ents_seq {L : Nat} {X Y : Option (List UInt8)} {q : Nat} (h : X.bind (rdCountL L) = Y.map fun r => (q, r)) : X.bind (rdSeq L rdEntry) = Y.bind (rdList rdEntry q) := by
  have e : X.bind (rdSeq L rdEntry) = (X.bind (rdCountL L)).bind fun r => rdList rdEntry r.1 r.2 := by cases X <;> rfl
  rw [e, h]
  cases Y <;> rfl
theorem EntsAt.step {w : World} {B g : Nat} {A : Option Addr} {n c : Nat} {b : List UInt8} {p o tp : Nat} {cs : Array Value} {Y : Option (List UInt8)} {k : Nat} {us : List (Entry)} {A' : Option Addr} {c' at' : Nat} {wr w3 w4 : World} {y : Entry} {A4 : Option Addr} {c4 at2 : Nat} {bad2 : Bool} {ox : Nat}
    (h : EntsAt w B g A n c b p o tp cs Y k us A' c' at' false wr) (hpg : p ≠ g) (hox : wr.heap.size ≤ ox) (hc3 : Chg (fun j => j = g ∨ j = ox) wr w3) (hrd : Rd w3 B g A n c b at2 bad2) (heq : (left b at' false).bind rdEntry = (left b at2 bad2).map fun r => (y, r)) (hpw : B ≤ p ∧ p < w.heap.size)
    (hv4 : Vec entryK 52 w4 (fun k => w.heap.size ≤ k) (fun k => w.heap.size ≤ k) (.slice A4 (k + 1) c4) (us ++ [y])) (hc4 : Chg (fun j => (Value.slice A' k c').ownBlock = some j) w3 w4) :
    EntsAt w B g A n c b p o tp cs Y (k + 1) (us ++ [y]) A4 c4 at2 bad2 (w4.setCell ⟨p, o, none⟩ (.slice A4 (k + 1) c4)) := by
  have hlt := h.vec.lt
  have hge := h.vec.inS
  have hB := h.rd.low
  have hg := h.rd.lt
  have hgw : g < w.heap.size ∨ w.heap.size ≤ g := by omega
  have hpown : (Value.slice A' k c').ownBlock ≠ some p := fun e => by have := hge p e; omega
  have hgown : (Value.slice A' k c').ownBlock ≠ some g := h.vec.ne h.rd.blk (by decide)
  have b3 := hc3.blk h.blk (fun e => by rcases e with e | e; exact hpg e; have := lt_of_blk h.blk; omega)
  have b4 := hc4.blk b3 hpown
  have bs := blk_set b4 o (.slice A4 (k + 1) c4)
  rw [Array.setIfInBounds_setIfInBounds] at bs
  have cs4 : Chg (fun j => j = p) w4 (w4.setCell ⟨p, o, none⟩ (.slice A4 (k + 1) c4)) := (Chg.refl (fun j => j = p) w4).set (p := ⟨p, o, none⟩) (fun _ => rfl) _
  have hv4p : (Value.slice A4 (k + 1) c4).ownBlock ≠ some p := fun e => by have := hv4.inS p e; omega
  refine ⟨by rw [List.length_append, h.len]; rfl, bs, hv4.chg cs4 (fun j hj e => hv4p (e ▸ hj)) (fun j hj _ _ e => by subst e; omega), ?_, ?_, ?_⟩
  · refine ((h.chg.trans hc3 (fun j hj hl => ?_)).trans hc4 (fun j hj hl => ?_)).trans cs4 (fun j hj _ => .inr hj)
    · rcases hj with hj | hj
      · exact .inl hj
      · have := h.chg.size; omega
    · have := hge j hj; omega
  · exact (hrd.chg (M := fun j => (Value.slice A' k c').ownBlock = some j) hc4 (fun j hj => by have := hge j hj; omega) hgown).chg cs4 (fun j hj => by subst hj; exact hpw.1) (fun e => hpg e.symm)
  · rw [rdList_step h.eq, heq]
    cases (left b at2 bad2) <;> rfl
theorem EntsAt.done {w : World} {B g : Nat} {A : Option Addr} {n c : Nat} {b : List UInt8} {p o tp : Nat} {cs : Array Value} {k q L : Nat} {us : List (Entry)} {A' : Option Addr} {c' at' : Nat} {bad' : Bool} {wr : World} {at_ at1 : Nat} {bad bad1 : Bool} (h : EntsAt w B g A n c b p o tp cs (left b at1 bad1) k us A' c' at' bad' wr)
    (he : (left b at_ bad).bind (rdCountL L) = (left b at1 bad1).map fun r => (q, r)) (hk : k ≤ q) (hq : q ≤ n) (hd : k = q ∨ bad' = true) : EntsTo w B g A n c b at_ bad p o tp cs L wr := by
  obtain rfl := h.len
  refine ⟨us, A', c', by omega, h.blk, h.vec, h.chg, at', bad', h.rd, ?_⟩
  rw [ents_seq he]
  rcases hd with rfl | rfl
  · exact h.eq
  · rw [left_none, Option.map_none]
    have := h.eq
    rw [left_none, Option.map_none] at this
    exact rdList_stop this hk

set_option maxHeartbeats 4000000 in
set_option maxRecDepth 100000 in
theorem ents_r {w : World} {B g p o tp : Nat} {A : Option Addr} {n c : Nat} {b : List UInt8} {at_ : Nat} {bad : Bool} {cs : Array Value} (h : Rd w B g A n c b at_ bad) (hp : w.heap[p]? = some (.cells cs tp (0, 0))) (ho : cs[o]? = some (.slice none 0 0)) (hpB : B ≤ p) (hpg : p ≠ g)
    (hn : n ≤ 1000000) {L : Nat} (hL : 0 < L) (hL2 : L ≤ 1000) :
    Calls Try.prog 76 #[.pointer (some ⟨g, 0, none⟩), .pointer (some ⟨p, o, none⟩), .int .i64 (L : Int), .func (.func 77) #[.pointer (some ⟨g, 0, none⟩)] #[]] w fun e w' => e = .returned (.tuple #[]) ∧ EntsTo w B g A n c b at_ bad p o tp cs L w' := by
  have H := hid h
  have HP := hid hp
  have HO := hid ho
  have HPL := hid (lt_of_blk hp)
  have HGL := hid h.lt
  have hn2 : (n : Int) ≤ 1000000 := by omega
  have eg : ∀ args w, (callFunc 77 args).run Try.prog w = .ok (.enter 77 args) w := Go.Proofs.enters_of Try.func77 (by kernel_rfl) rfl
  have hp0 : w.cell? ⟨p, o, none⟩ = some (.slice none 0 0) := by rw [cellAt hp]; exact ho
  clear h hp ho
  go_enter Try.func76, Try.ntmps76
  go_wp2_with fail
  refine (count_r H.out (k := 0) (by decide) (by omega) hL hL2).mono ?_
  rintro e w1 ⟨q, rfl, hqn, hc1, at1, bad1, hrd1, heq1⟩
  have HQ := hid heq1
  have hd2 := hrd1.cells.2.2.1
  have H0 := hid (show EntsAt w B g A n c b p o tp cs (left b at1 bad1) 0 [] none 0 at1 bad1 w1 from ⟨rfl, by
    have e : cs.setIfInBounds o (.slice none 0 0) = cs := set_same HO.out
    rw [e]
    exact hc1.blk HP.out hpg, Vec.nil _ _ _ _ _, hc1.mono (fun _ h _ => .inl h), hrd1, by cases bad1 <;> simp [left, rdList]⟩)
  clear hc1 hrd1 heq1 hp0
  go_wp2_with fail
  clear hd2
  go_loopw [11] (fun i wr => ∃ (k : Nat) (us : List (Entry)) (A' : Option Addr) (c' at' : Nat) (bad' : Bool), k ≤ q ∧ i = .int .i64 k ∧ EntsAt w B g A n c b p o tp cs (left b at1 bad1) k us A' c' at' bad' wr) (fun i _ => q - (intOf i).toNat)
  case atStart => exact ⟨0, [], none, 0, at1, bad1, Nat.zero_le _, rfl, H0.out⟩
  case round =>
    obtain ⟨k, us, A', c', at', bad', hk, rfl, hT⟩ := hrel
    have HT := hid hT
    have hd3 := hT.rd.cells.2.2.2
    clear hT
    by_cases hlt : k < q
    · have hlt2 : (k : Int) < (q : Int) := by omega
      cases bad' with
      | true =>
        clear eg
        go_wp2_with fail
        go_end0
        exact ⟨rfl, HT.out.done HQ.out hk hqn (.inr rfl)⟩
      | false =>
        go_wp2_with fail
        clear hd3
        have CB := hid (show Chg (fun _ => False) wr (wr.alloc (.cells (entryCells ⟨0, 0, 0, 0, 0, 0, 0, [], []⟩ none 0 0 none 0 0).toArray 52)) from (Chg.refl _ wr).alloc _)
        have BB := hid (show (wr.alloc (.cells (entryCells ⟨0, 0, 0, 0, 0, 0, 0, [], []⟩ none 0 0 none 0 0).toArray 52)).heap[wr.heap.size]? = some (.cells (entryCells ⟨0, 0, 0, 0, 0, 0, 0, [], []⟩ none 0 0 none 0 0).toArray 52 (0, 0)) from blk_new wr _)
        refine (entry_r (vs := [0, 0, 0, 0, 0, 0, 0]) (HT.out.rd.chg CB.out (fun _ h => h.elim) (fun h => h)) BB.out rfl (by have := HT.out.chg.size; have := HPL.out; omega) (by have := HT.out.rd.lt; omega) (by intro u hu; simp at hu; subst hu; decide) hn).mono ?_
        rintro e w3 ⟨rfl, y, E1, m1, d1, E2, m2, d2, hyw, hyb, h3, at2, bad2, h5, h6⟩
        have H5 := hid h5
        have H6 := hid h6
        have HYB := hid hyb
        have HYW := hid (show EntryAt w3 (fun k => wr.heap.size < k ∧ k < w3.heap.size) y E1 m1 d1 E2 m2 d2 from hyw.bound.mono (fun k hk => ⟨by have q : (wr.alloc _).heap.size ≤ k := hk.1; simp at q; omega, hk.2⟩))
        have HPB := hid (show p < wr.heap.size from Nat.lt_of_lt_of_le HPL.out HT.out.chg.size)
        have C3 := hid (show Chg (fun j => j = g ∨ j = wr.heap.size) wr w3 from (CB.out.mono (fun _ h _ => h.elim)).trans h3 (fun _ h _ => h))
        have HPC := hid (C3.out.blk HT.out.blk (fun e => by rcases e with e | e; exact hpg e; have := HPB.out; omega))
        have HOB := hid (show ∀ j, (Value.slice A' k c').ownBlock = some j → j ≠ wr.heap.size ∧ j ≠ p ∧ j ≠ g from fun j hj => ⟨by have := HT.out.vec.lt j hj; omega, by have := HT.out.vec.inS j hj; have := HPL.out; omega, fun e => HT.out.vec.ne HT.out.rd.blk (by decide) (e ▸ hj)⟩)
        have HV3 := hid (HT.out.vec.chg C3.out (fun j hj e => by rcases e with e | e; exact (HOB.out j hj).2.2 e; exact (HOB.out j hj).1 e) (fun j hj _ hl e => by
          rcases e with e | e
          · have := HGL.out; omega
          · omega))
        obtain ⟨M, hMM⟩ : ∃ M : Nat → Prop, ∀ i, M i ↔ (Value.slice A' k c').ownBlock = some i := ⟨_, fun _ => Iff.rfl⟩
        have MM := hid hMM
        have hcell0 : ∀ wx, Chg M w3 wx → wx.cell? ⟨p, o, none⟩ = some (.slice A' k c') := fun wx hx => hx.cell (by
          rw [cellAt HPC.out]
          have := Array.getElem?_eq_some_iff.1 HO.out
          obtain ⟨hl, _⟩ := this
          simp [hl]) (fun h => (HOB.out _ ((MM.out _).1 h)).2.1 rfl)
        have hy0 : ∀ wx, Chg M w3 wx → wx.cell? ⟨wr.heap.size, 0, none⟩ = some (.int .i64 y.view) := fun wx hx => hx.cell (by rw [cellAt HYB.out]; rfl) (fun h => (HOB.out _ ((MM.out _).1 h)).1 rfl)
        have hy1 : ∀ wx, Chg M w3 wx → wx.cell? ⟨wr.heap.size, 1, none⟩ = some (.int .i64 y.client) := fun wx hx => hx.cell (by rw [cellAt HYB.out]; rfl) (fun h => (HOB.out _ ((MM.out _).1 h)).1 rfl)
        have hy2 : ∀ wx, Chg M w3 wx → wx.cell? ⟨wr.heap.size, 2, none⟩ = some (.int .i64 y.request) := fun wx hx => hx.cell (by rw [cellAt HYB.out]; rfl) (fun h => (HOB.out _ ((MM.out _).1 h)).1 rfl)
        have hy3 : ∀ wx, Chg M w3 wx → wx.cell? ⟨wr.heap.size, 3, none⟩ = some (.int .i64 y.dflt) := fun wx hx => hx.cell (by rw [cellAt HYB.out]; rfl) (fun h => (HOB.out _ ((MM.out _).1 h)).1 rfl)
        have hy4 : ∀ wx, Chg M w3 wx → wx.cell? ⟨wr.heap.size, 4, none⟩ = some (.int .i64 y.closed) := fun wx hx => hx.cell (by rw [cellAt HYB.out]; rfl) (fun h => (HOB.out _ ((MM.out _).1 h)).1 rfl)
        have hy5 : ∀ wx, Chg M w3 wx → wx.cell? ⟨wr.heap.size, 5, none⟩ = some (.int .i64 y.fuel) := fun wx hx => hx.cell (by rw [cellAt HYB.out]; rfl) (fun h => (HOB.out _ ((MM.out _).1 h)).1 rfl)
        have hy6 : ∀ wx, Chg M w3 wx → wx.cell? ⟨wr.heap.size, 6, none⟩ = some (.int .i64 y.stack) := fun wx hx => hx.cell (by rw [cellAt HYB.out]; rfl) (fun h => (HOB.out _ ((MM.out _).1 h)).1 rfl)
        have hy7 : ∀ wx, Chg M w3 wx → wx.cell? ⟨wr.heap.size, 7, none⟩ = some (.slice E1 m1 d1) := fun wx hx => hx.cell (by rw [cellAt HYB.out]; rfl) (fun h => (HOB.out _ ((MM.out _).1 h)).1 rfl)
        have hy8 : ∀ wx, Chg M w3 wx → wx.cell? ⟨wr.heap.size, 8, none⟩ = some (.slice E2 m2 d2) := fun wx hx => hx.cell (by rw [cellAt HYB.out]; rfl) (fun h => (HOB.out _ ((MM.out _).1 h)).1 rfl)
        have HKL := hid HT.out.len
        have h4 := (fun (w' : World) (D : Nat → Prop) (hc : Chg (fun _ => False) w3 w') (hD : ∀ j, wr.heap.size < j → j < w3.heap.size → D j) => (Ty.Row.one_ (entry_shut ((HYW.out.chg hc (fun _ _ h => h)).mono (fun j hj => hD j hj.1 hj.2))) : Ty.Row entryK w' D [y] (entryCells y E1 m1 d1 E2 m2 d2)))
        have H4 := hid h4
        clear h4 hMM h3 h5 h6 hyb hyw
        go_wp2_with fail
        refine wpB_start (fun wx : World => Chg M w3 wx) (by kernel_rfl) ?_
        have hHeld : (fun wx : World => Chg M w3 wx) _ := (by first | assumption | exact Chg.drew (Chg.refl _ _) | (show _ ∧ _; refine ⟨?_, ?_⟩ <;> assumption) | (first | assumption | exact hHeld.alloc _ | exact hHeld.trans h2 (fun _ h _ => (MM.out _).2 h)))
        -- 0: t49 := move t1 : 132
        refine wpB_take (i := 0) (v := ?_) (get_of_drop rfl) (by kernel_rfl) (by kernel_rfl) (by kernel_rfl) (by kernel_rfl) (fun _ _ _ h => h) (Or.inl ⟨by rfl, ?_⟩) hHeld ?_
        rotate_left
        · (intro w hSw; (try dsimp only at hSw); go_simp <;> with_reducible rfl)
        try simp only [Act.put, List.setIfInBounds_toArray, List.set_cons_zero, List.set_cons_succ]
        -- 1: t50 := move t1 : 132
        refine wpB_take (i := 1) (v := ?_) (get_of_drop rfl) (by kernel_rfl) (by kernel_rfl) (by kernel_rfl) (by kernel_rfl) (fun _ _ _ h => h) (Or.inl ⟨by rfl, ?_⟩) hHeld ?_
        rotate_left
        · (intro w hSw; (try dsimp only at hSw); go_simp <;> with_reducible rfl)
        try simp only [Act.put, List.setIfInBounds_toArray, List.set_cons_zero, List.set_cons_succ]
        -- 2: t51 := nilCheck t50 : 0
        refine wpB_take (i := 2) (v := ?_) (get_of_drop rfl) (by kernel_rfl) (by kernel_rfl) (by kernel_rfl) (by kernel_rfl) (fun _ _ _ h => h) (Or.inl ⟨by rfl, ?_⟩) hHeld ?_
        rotate_left
        · (intro w hSw; (try dsimp only at hSw); go_simp <;> with_reducible rfl)
        try simp only [Act.put, List.setIfInBounds_toArray, List.set_cons_zero, List.set_cons_succ]
        -- 3: t52 := load 30 t51 : 30
        refine wpB_take (i := 3) (v := ?_) (get_of_drop rfl) (by kernel_rfl) (by kernel_rfl) (by kernel_rfl) (by kernel_rfl) (fun _ _ _ h => h) (Or.inl ⟨by rfl, ?_⟩) hHeld ?_
        rotate_left
        · (intro w hSw; (try dsimp only at hSw); go_simp <;> with_reducible rfl)
        try simp only [Act.put, List.setIfInBounds_toArray, List.set_cons_zero, List.set_cons_succ]
        -- 4: t53 := load 52 t12 : 52
        refine wpB_take (i := 4) (v := ?_) (get_of_drop rfl) (by kernel_rfl) (by kernel_rfl) (by kernel_rfl) (by kernel_rfl) (fun _ _ _ h => h) (Or.inl ⟨by rfl, ?_⟩) hHeld ?_
        rotate_left
        · (intro w hSw; (try dsimp only at hSw); go_simp <;> with_reducible rfl)
        try simp only [Act.put, List.setIfInBounds_toArray, List.set_cons_zero, List.set_cons_succ]
        -- 5: t54 := buildSlice 30 1 [⟨0, t53⟩] : 30
        refine wpB_act (i := 5) (by kernel_rfl) (get_of_drop rfl) (fun K hK => ?_)
        go_simp
        refine hK.out _ _ ?_ (fun hHeld2 => ?_)
        · (first | assumption | exact hHeld.alloc _ | exact hHeld.trans h2 (fun _ h _ => (MM.out _).2 h))
        clear hHeld hK K
        have hHeld := hHeld2
        clear hHeld2
        try simp only [Act.put, List.setIfInBounds_toArray, List.set_cons_zero, List.set_cons_succ]
        -- 6: t55 := append(t52, t54) types [30, 30] : 30
        refine wpB_act (i := 6) (by kernel_rfl) (get_of_drop rfl) (fun K hK => ?_)
        refine vec_step (d := entryK) _ rfl (.tmp 52) (.tmp 54) 30 52 (.agg #[.int .i64 0, .int .i64 0, .int .i64 0, .int .i64 0, .int .i64 0, .int .i64 0, .int .i64 0, .slice none 0 0, .slice none 0 0]) 104 rfl Try.underlying30 infoents rfl (by decide) (by decide) (.slice A' k c') rfl ((HV3.out.chg ((((Chg.refl (fun _ => False) w3).alloc _)).drew) (fun _ _ h => h) (fun _ _ _ _ h => h))) (some ⟨w3.heap.size, 0, none⟩) 1 1 (ys := [y]) rfl (by simp) (by omega) rfl (lit_sees w3 (entryCells y E1 m1 d1 E2 m2 d2).toArray 52) (H4.out _ _ (((Chg.refl (fun _ => False) w3).alloc _).drew) (fun j q1 q2 => ⟨Nat.le_trans HT.out.chg.size (Nat.le_of_lt q1), fun e' => Nat.lt_irrefl _ (Nat.lt_trans (HT.out.vec.lt j e') q1), Nat.lt_of_lt_of_le q2 (((Chg.refl (fun _ => False) w3).alloc _).drew).size⟩)) (by rw [HKL.out]; omega) ?_
        have HH := hid hHeld
        rw [HKL.out]
        intro A4 c4 w4 h1 h2
        have f0' : w4.frozen? ⟨p, o, none⟩ = false := freeAt ((HH.out.trans h2 (fun _ h _ => (MM.out _).2 h)).blk HPC.out (fun h => (HOB.out _ ((MM.out _).1 h)).2.1 rfl)) o
        have c0' : w4.cell? ⟨p, o, none⟩ = some (.slice A' k c') := hcell0 _ (HH.out.trans h2 (fun _ h _ => (MM.out _).2 h))
        refine hK.out _ _ ?_ (fun hHeld2 => ?_)
        · (first | assumption | exact hHeld.alloc _ | exact hHeld.trans h2 (fun _ h _ => (MM.out _).2 h))
        clear hHeld hK K
        have hHeld := hHeld2
        clear hHeld2
        try simp only [Act.put, List.setIfInBounds_toArray, List.set_cons_zero, List.set_cons_succ]
        -- 7: t56 := nilCheck t49 : 0
        refine wpB_take (i := 7) (v := ?_) (get_of_drop rfl) (by kernel_rfl) (by kernel_rfl) (by kernel_rfl) (by kernel_rfl) (fun _ _ _ h => h) (Or.inl ⟨by rfl, ?_⟩) hHeld ?_
        rotate_left
        · (intro w hSw; (try dsimp only at hSw); go_simp <;> with_reducible rfl)
        try simp only [Act.put, List.setIfInBounds_toArray, List.set_cons_zero, List.set_cons_succ]
        -- 8: t- := store 30 t56 t55 : 0 (BARRIER)
        refine wpB_bar (i := 8) (by kernel_rfl) (get_of_drop rfl) (by kernel_rfl) (fun K hK => ?_)
        go_simp
        refine hK.out _ _ (fun _ : World => True) ?_
        clear hHeld hK K
        have hHeld := trivial
        try simp only [Act.put, List.setIfInBounds_toArray, List.set_cons_zero, List.set_cons_succ]
        refine wpB_done (by kernel_rfl) ?_ _
        have HN := hid (HT.out.step (w4 := w4) (A4 := A4) (c4 := c4) hpg (Nat.le_refl _) C3.out H5.out H6.out ⟨hpB, HPL.out⟩ (h1.mono (fun k h _ => by rcases h with h | h; exact h; exact Nat.le_trans (Nat.le_trans HT.out.chg.size C3.out.size) (Nat.le_trans (((Chg.refl (fun _ => False) w3).alloc _).drew).size h)) (fun k h _ => h)) (((Chg.refl (fun j => (Value.slice A' k c').ownBlock = some j) w3).alloc _).drew.trans h2 (fun _ h _ => h)))
        clear h1 h2 hHeld hcell0 f0' c0'
        go_wp2_with fail
        go_roundw
        case measure => simp [intOf]; omega
        case rel => first | exact ⟨k + 1, _, _, _, _, _, hlt, by go_num, HN.out⟩ | ((repeat apply Exists.intro); exact ⟨⟨k + 1, _, _, _, _, _, hlt, by go_num, HN.out⟩, rfl⟩)
    · clear eg
      have hkq : ¬ (k : Int) < (q : Int) := by omega
      go_wp2_with fail
      go_end0
      exact ⟨rfl, HT.out.done HQ.out hk hqn (.inl (by omega))⟩
end Go.Proofs.Ytfpjickdkkhndaa.Pa


/- The contracts of the codec's message and record. -/

namespace Go.Proofs.Ytfpjickdkkhndaa.Pa

set_option linter.unusedVariables false

set_option linter.unusedSimpArgs false

open Go.RowKit Go.Proofs.Ytfpjickdkkhndaa.C

attribute [local go_sem] max2_int min2_int max_two min_two

structure Msg where
  kind : Int
  view : Int
  src : Int
  dst : Int
  op : Int
  commit : Int
  normal : Int
  log : List Entry
def Msg.nums (m : Msg) : List Int := [m.kind, m.view, m.src, m.dst, m.op, m.commit, m.normal]
structure Rec where
  kind : Int
  a : Int
  b : Int
  log : List Entry
def Rec.nums (m : Rec) : List Int := [m.kind, m.a, m.b]
def mkMsg : List Int → List Entry → Msg
  | [a, b, c, d, e, f, g], l => ⟨a, b, c, d, e, f, g, l⟩
  | _, l => ⟨0, 0, 0, 0, 0, 0, 0, l⟩
def mkRec : List Int → List Entry → Rec
  | [a, b, c], l => ⟨a, b, c, l⟩
  | _, l => ⟨0, 0, 0, l⟩

def msgB (m : Msg) : List UInt8 := m.nums.flatMap num ++ logB m.log
def rdMsg : List UInt8 → Option (Msg × List UInt8) := thenRd (rdList rdNum 7) (rdSeq 54 rdEntry) mkMsg
structure MsgOk (m : Msg) : Prop where
  nums : ∀ u ∈ m.nums, NumOk u
  log : ∀ e ∈ m.log, EntryOk e
  len : m.log.length ≤ 100
def msgCells (m : Msg) (A1 : Option Addr) (n1 c1 : Nat) : List Value := ints m.nums ++ [.slice A1 n1 c1]
theorem msgB_len {m : Msg} (h : MsgOk m) : (msgB m).length ≤ 12000000 := by
  have h1 := ents_len h.log m.log.length
  rw [List.take_length] at h1
  unfold msgB logB
  simp only [List.length_append, num_len]
  have h3 : (m.nums.flatMap num).length = 6 * 7 := by rw [flatMap_num_len]; rfl
  have h4 := h.len
  omega

/-- It was read into a block. -/
def MsgTo (w : World) (B g : Nat) (A : Option Addr) (n c : Nat) (b : List UInt8) (at_ : Nat) (bad : Bool) (p tp : Nat) (w' : World) : Prop :=
  ∃ (m : Msg) (A1 : Option Addr) (n1 c1 : Nat), (∀ u ∈ m.nums, (Lit.int .i64 u).wf = true) ∧ Ty.At entryK w' (fun k => w.heap.size ≤ k) A1 n1 c1 m.log ∧ w'.heap[p]? = some (.cells (msgCells m A1 n1 c1).toArray tp (0, 0)) ∧ Chg (fun j => j = g ∨ j = p) w w' ∧ RdTo B g A n c b at_ bad rdMsg w' m ∧ m.log.length ≤ n

def recB (m : Rec) : List UInt8 := m.nums.flatMap num ++ logB m.log
def rdRec : List UInt8 → Option (Rec × List UInt8) := thenRd (rdList rdNum 3) (rdSeq 54 rdEntry) mkRec
structure RecOk (m : Rec) : Prop where
  nums : ∀ u ∈ m.nums, NumOk u
  log : ∀ e ∈ m.log, EntryOk e
  len : m.log.length ≤ 100
def recCells (m : Rec) (A1 : Option Addr) (n1 c1 : Nat) : List Value := ints m.nums ++ [.slice A1 n1 c1]
theorem recB_len {m : Rec} (h : RecOk m) : (recB m).length ≤ 12000000 := by
  have h1 := ents_len h.log m.log.length
  rw [List.take_length] at h1
  unfold recB logB
  simp only [List.length_append, num_len]
  have h3 : (m.nums.flatMap num).length = 6 * 3 := by rw [flatMap_num_len]; rfl
  have h4 := h.len
  omega

set_option maxHeartbeats 4000000 in
set_option maxRecDepth 100000 in
theorem record_w {w : World} {S R : Nat → Prop} {g p tp : Nat} {v : Value} {x : List UInt8} {m : Rec} {A1 : Option Addr} {n1 c1 : Nat} (h : Wr w S g v x) (hp : w.heap[p]? = some (.cells (recCells m A1 n1 c1).toArray tp (0, 0))) (hpS : ¬ S p)
    (he : Ty.At entryK w R A1 n1 c1 m.log) (hR : ∀ k, R k → ¬ S k) (hok : RecOk m) (hx : x.length ≤ 300000000) :
    Calls Try.prog 54 #[.pointer (some ⟨g, 0, none⟩), .pointer (some ⟨p, 0, none⟩)] w fun e' w' => e' = .returned (.tuple #[]) ∧ WrTo S g (x ++ recB m) w w' := by
  have HB := hid h.bound
  have HP := hid hp
  have HPL := hid (lt_of_blk hp)
  have HE := hid he.bound
  have HR := hid hR
  have HOK := hid hok
  have hnl : (m.nums.flatMap num).length = 6 * 3 := by rw [flatMap_num_len]; rfl
  have HNL := hid hnl
  clear h hp hok he hR hnl
  go_enter Try.func54, Try.ntmps54
  go_wp2_with fail
  refine wpB_start (fun _ : World => True) (by kernel_rfl) ?_
  have hHeld := trivial
  -- 0: t4 := move t0 : 105
  refine wpB_take (i := 0) (v := ?_) (get_of_drop rfl) (by kernel_rfl) (by kernel_rfl) (by kernel_rfl) (by kernel_rfl) (fun _ _ _ h => h) (Or.inl ⟨by rfl, ?_⟩) hHeld ?_
  rotate_left
  · (intro w hSw; (try dsimp only at hSw); go_simp <;> with_reducible rfl)
  try simp only [Act.put, List.setIfInBounds_toArray, List.set_cons_zero, List.set_cons_succ]
  -- 1: t5 := move t1 : 109
  refine wpB_take (i := 1) (v := ?_) (get_of_drop rfl) (by kernel_rfl) (by kernel_rfl) (by kernel_rfl) (by kernel_rfl) (fun _ _ _ h => h) (Or.inl ⟨by rfl, ?_⟩) hHeld ?_
  rotate_left
  · (intro w hSw; (try dsimp only at hSw); go_simp <;> with_reducible rfl)
  try simp only [Act.put, List.setIfInBounds_toArray, List.set_cons_zero, List.set_cons_succ]
  -- 2: t6 := nilCheck t5 : 0
  refine wpB_take (i := 2) (v := ?_) (get_of_drop rfl) (by kernel_rfl) (by kernel_rfl) (by kernel_rfl) (by kernel_rfl) (fun _ _ _ h => h) (Or.inl ⟨by rfl, ?_⟩) hHeld ?_
  rotate_left
  · (intro w hSw; (try dsimp only at hSw); go_simp <;> with_reducible rfl)
  try simp only [Act.put, List.setIfInBounds_toArray, List.set_cons_zero, List.set_cons_succ]
  -- 3: t7 := fieldAddr 62 t6 0 : 0
  refine wpB_take (i := 3) (v := ?_) (get_of_drop rfl) (by kernel_rfl) (by kernel_rfl) (by kernel_rfl) (by kernel_rfl) (fun _ _ _ h => h) (Or.inl ⟨by rfl, ?_⟩) hHeld ?_
  rotate_left
  · (intro w hSw; (try dsimp only at hSw); go_simp <;> with_reducible rfl)
  try simp only [Act.put, List.setIfInBounds_toArray, List.set_cons_zero, List.set_cons_succ]
  -- 4: t8 := move t1 : 109
  refine wpB_take (i := 4) (v := ?_) (get_of_drop rfl) (by kernel_rfl) (by kernel_rfl) (by kernel_rfl) (by kernel_rfl) (fun _ _ _ h => h) (Or.inl ⟨by rfl, ?_⟩) hHeld ?_
  rotate_left
  · (intro w hSw; (try dsimp only at hSw); go_simp <;> with_reducible rfl)
  try simp only [Act.put, List.setIfInBounds_toArray, List.set_cons_zero, List.set_cons_succ]
  -- 5: t9 := nilCheck t8 : 0
  refine wpB_take (i := 5) (v := ?_) (get_of_drop rfl) (by kernel_rfl) (by kernel_rfl) (by kernel_rfl) (by kernel_rfl) (fun _ _ _ h => h) (Or.inl ⟨by rfl, ?_⟩) hHeld ?_
  rotate_left
  · (intro w hSw; (try dsimp only at hSw); go_simp <;> with_reducible rfl)
  try simp only [Act.put, List.setIfInBounds_toArray, List.set_cons_zero, List.set_cons_succ]
  -- 6: t10 := fieldAddr 62 t9 1 : 0
  refine wpB_take (i := 6) (v := ?_) (get_of_drop rfl) (by kernel_rfl) (by kernel_rfl) (by kernel_rfl) (by kernel_rfl) (fun _ _ _ h => h) (Or.inl ⟨by rfl, ?_⟩) hHeld ?_
  rotate_left
  · (intro w hSw; (try dsimp only at hSw); go_simp <;> with_reducible rfl)
  try simp only [Act.put, List.setIfInBounds_toArray, List.set_cons_zero, List.set_cons_succ]
  -- 7: t11 := move t1 : 109
  refine wpB_take (i := 7) (v := ?_) (get_of_drop rfl) (by kernel_rfl) (by kernel_rfl) (by kernel_rfl) (by kernel_rfl) (fun _ _ _ h => h) (Or.inl ⟨by rfl, ?_⟩) hHeld ?_
  rotate_left
  · (intro w hSw; (try dsimp only at hSw); go_simp <;> with_reducible rfl)
  try simp only [Act.put, List.setIfInBounds_toArray, List.set_cons_zero, List.set_cons_succ]
  -- 8: t12 := nilCheck t11 : 0
  refine wpB_take (i := 8) (v := ?_) (get_of_drop rfl) (by kernel_rfl) (by kernel_rfl) (by kernel_rfl) (by kernel_rfl) (fun _ _ _ h => h) (Or.inl ⟨by rfl, ?_⟩) hHeld ?_
  rotate_left
  · (intro w hSw; (try dsimp only at hSw); go_simp <;> with_reducible rfl)
  try simp only [Act.put, List.setIfInBounds_toArray, List.set_cons_zero, List.set_cons_succ]
  -- 9: t13 := fieldAddr 62 t12 2 : 0
  refine wpB_take (i := 9) (v := ?_) (get_of_drop rfl) (by kernel_rfl) (by kernel_rfl) (by kernel_rfl) (by kernel_rfl) (fun _ _ _ h => h) (Or.inl ⟨by rfl, ?_⟩) hHeld ?_
  rotate_left
  · (intro w hSw; (try dsimp only at hSw); go_simp <;> with_reducible rfl)
  try simp only [Act.put, List.setIfInBounds_toArray, List.set_cons_zero, List.set_cons_succ]
  -- 10: t14 := buildSlice 138 3 [⟨0, t7⟩, ⟨1, t10⟩, ⟨2, t13⟩] : 138
  refine wpB_act (i := 10) (by kernel_rfl) (get_of_drop rfl) (fun K hK => ?_)
  go_simp
  refine hK.out _ _ ?_ (fun hHeld2 => ?_)
  · exact trivial
  clear hHeld hK K
  have hHeld := hHeld2
  clear hHeld2
  try simp only [Act.put, List.setIfInBounds_toArray, List.set_cons_zero, List.set_cons_succ]
  -- 11: t15 := CALL fn75(t4, t14) : 0
  refine wpB_act (i := 11) (by kernel_rfl) (get_of_drop rfl) (fun K hK => ?_)
  go_simp
  have CC := hid (show Chg (fun _ => False) w (w.alloc (.cells (ptrs p 3).toArray 130)).drew from ((Chg.refl _ w).alloc _).drew)
  refine (num_w (S := fun k => S k ∧ k < w.heap.size) (vs := m.nums) (p := p) (R := fun k => k = w.heap.size) (HB.out.chg CC.out (fun _ _ h => h)) (lit_sees w (ptrs p 3).toArray 130) (fun k hk hs => by have := hs.2; omega) (fun i u hi => by
    rw [cellAt (CC.out.blk HP.out (fun h => h))]
    exact ints_at hi _) (fun hs => hpS hs.1) (fun u hu => HOK.out.nums u hu) (by omega) (by show 3 ≤ 7; omega)).mono ?_
  rintro e' w1 ⟨rfl, h1⟩
  have HT := hid (WrTo.pre (S := fun k => S k ∧ k < w.heap.size) CC.out h1 (fun k hk => .inl hk))
  clear h1
  refine hK.out _ _ ?_ (fun hHeld2 => ?_)
  · exact trivial
  clear hHeld hK K
  have hHeld := hHeld2
  clear hHeld2
  try simp only [Act.put, List.setIfInBounds_toArray, List.set_cons_zero, List.set_cons_succ]
  refine wpB_done (by kernel_rfl) ?_ _
  clear hHeld
  obtain ⟨v1, hv1, hc1⟩ := HT.out
  have H1 := hid hv1.bound
  have HC1 := hid hc1
  clear hv1 hc1
  have HP1 := hid (HC1.out.blk HP.out (fun h => hpS h.1))
  have HE1 := hid (HE.out.chg HC1.out (fun k hk h => HR.out k hk.1 h.1))
  have HN1 := hid HE.out.1
  go_wp2_with fail
  refine (ents_w (o := 3) H1.out (by rw [cellAt HP1.out]; rfl) (fun hs => by have := HPL.out; rcases hs.1 with h | h; exact hpS h.1; omega) HE1.out (fun k hk hs => by have := hk.2; rcases hs.1 with h | h; exact HR.out k hk.1 h.1; omega) HOK.out.log (by rw [HN1.out]; exact HOK.out.len) (by rw [List.length_append, HNL.out]; omega) 54).mono ?_
  rintro e' w2 ⟨rfl, h2⟩
  have HF := hid (WrTo.pre (S := S) (Chg.refl _ _) (HT.out.trans (WrTo.pre (Chg.refl _ _) h2 (fun k hk => .inl hk.1))) (fun k hk => .inl hk.1))
  clear h2
  go_wp2_with fail
  go_end0
  refine ⟨rfl, ?_⟩
  have q := HF.out
  rw [HN1.out] at q
  unfold recB logB
  simpa only [List.append_assoc] using q

/-- It was read into a block. -/
def RecTo (w : World) (B g : Nat) (A : Option Addr) (n c : Nat) (b : List UInt8) (at_ : Nat) (bad : Bool) (p tp : Nat) (w' : World) : Prop :=
  ∃ (m : Rec) (A1 : Option Addr) (n1 c1 : Nat), (∀ u ∈ m.nums, (Lit.int .i64 u).wf = true) ∧ Ty.At entryK w' (fun k => w.heap.size ≤ k) A1 n1 c1 m.log ∧ w'.heap[p]? = some (.cells (recCells m A1 n1 c1).toArray tp (0, 0)) ∧ Chg (fun j => j = g ∨ j = p) w w' ∧ RdTo B g A n c b at_ bad rdRec w' m ∧ m.log.length ≤ n

set_option maxHeartbeats 4000000 in
set_option maxRecDepth 100000 in
theorem record_r {w : World} {B g p tp : Nat} {A : Option Addr} {n c : Nat} {b : List UInt8} {at_ : Nat} {bad : Bool} {vs : List Int} (h : Rd w B g A n c b at_ bad) (hp : w.heap[p]? = some (.cells (ints vs ++ [Value.slice none 0 0]).toArray tp (0, 0))) (hvs : vs.length = 3) (hpB : B ≤ p) (hpg : p ≠ g) (hwf : ∀ u ∈ vs, (Lit.int .i64 u).wf = true) (hn : n ≤ 1000000) :
    Calls Try.prog 54 #[.pointer (some ⟨g, 0, none⟩), .pointer (some ⟨p, 0, none⟩)] w fun e' w' => e' = .returned (.tuple #[]) ∧ RecTo w B g A n c b at_ bad p tp w' := by
  have H := hid h
  have HP := hid hp
  have HPL := hid (lt_of_blk hp)
  have HGL := hid h.lt
  have HWF := hid hwf
  clear h hp hwf
  go_enter Try.func54, Try.ntmps54
  go_wp2_with fail
  refine wpB_start (fun _ : World => True) (by kernel_rfl) ?_
  have hHeld := trivial
  -- 0: t4 := move t0 : 105
  refine wpB_take (i := 0) (v := ?_) (get_of_drop rfl) (by kernel_rfl) (by kernel_rfl) (by kernel_rfl) (by kernel_rfl) (fun _ _ _ h => h) (Or.inl ⟨by rfl, ?_⟩) hHeld ?_
  rotate_left
  · (intro w hSw; (try dsimp only at hSw); go_simp <;> with_reducible rfl)
  try simp only [Act.put, List.setIfInBounds_toArray, List.set_cons_zero, List.set_cons_succ]
  -- 1: t5 := move t1 : 109
  refine wpB_take (i := 1) (v := ?_) (get_of_drop rfl) (by kernel_rfl) (by kernel_rfl) (by kernel_rfl) (by kernel_rfl) (fun _ _ _ h => h) (Or.inl ⟨by rfl, ?_⟩) hHeld ?_
  rotate_left
  · (intro w hSw; (try dsimp only at hSw); go_simp <;> with_reducible rfl)
  try simp only [Act.put, List.setIfInBounds_toArray, List.set_cons_zero, List.set_cons_succ]
  -- 2: t6 := nilCheck t5 : 0
  refine wpB_take (i := 2) (v := ?_) (get_of_drop rfl) (by kernel_rfl) (by kernel_rfl) (by kernel_rfl) (by kernel_rfl) (fun _ _ _ h => h) (Or.inl ⟨by rfl, ?_⟩) hHeld ?_
  rotate_left
  · (intro w hSw; (try dsimp only at hSw); go_simp <;> with_reducible rfl)
  try simp only [Act.put, List.setIfInBounds_toArray, List.set_cons_zero, List.set_cons_succ]
  -- 3: t7 := fieldAddr 62 t6 0 : 0
  refine wpB_take (i := 3) (v := ?_) (get_of_drop rfl) (by kernel_rfl) (by kernel_rfl) (by kernel_rfl) (by kernel_rfl) (fun _ _ _ h => h) (Or.inl ⟨by rfl, ?_⟩) hHeld ?_
  rotate_left
  · (intro w hSw; (try dsimp only at hSw); go_simp <;> with_reducible rfl)
  try simp only [Act.put, List.setIfInBounds_toArray, List.set_cons_zero, List.set_cons_succ]
  -- 4: t8 := move t1 : 109
  refine wpB_take (i := 4) (v := ?_) (get_of_drop rfl) (by kernel_rfl) (by kernel_rfl) (by kernel_rfl) (by kernel_rfl) (fun _ _ _ h => h) (Or.inl ⟨by rfl, ?_⟩) hHeld ?_
  rotate_left
  · (intro w hSw; (try dsimp only at hSw); go_simp <;> with_reducible rfl)
  try simp only [Act.put, List.setIfInBounds_toArray, List.set_cons_zero, List.set_cons_succ]
  -- 5: t9 := nilCheck t8 : 0
  refine wpB_take (i := 5) (v := ?_) (get_of_drop rfl) (by kernel_rfl) (by kernel_rfl) (by kernel_rfl) (by kernel_rfl) (fun _ _ _ h => h) (Or.inl ⟨by rfl, ?_⟩) hHeld ?_
  rotate_left
  · (intro w hSw; (try dsimp only at hSw); go_simp <;> with_reducible rfl)
  try simp only [Act.put, List.setIfInBounds_toArray, List.set_cons_zero, List.set_cons_succ]
  -- 6: t10 := fieldAddr 62 t9 1 : 0
  refine wpB_take (i := 6) (v := ?_) (get_of_drop rfl) (by kernel_rfl) (by kernel_rfl) (by kernel_rfl) (by kernel_rfl) (fun _ _ _ h => h) (Or.inl ⟨by rfl, ?_⟩) hHeld ?_
  rotate_left
  · (intro w hSw; (try dsimp only at hSw); go_simp <;> with_reducible rfl)
  try simp only [Act.put, List.setIfInBounds_toArray, List.set_cons_zero, List.set_cons_succ]
  -- 7: t11 := move t1 : 109
  refine wpB_take (i := 7) (v := ?_) (get_of_drop rfl) (by kernel_rfl) (by kernel_rfl) (by kernel_rfl) (by kernel_rfl) (fun _ _ _ h => h) (Or.inl ⟨by rfl, ?_⟩) hHeld ?_
  rotate_left
  · (intro w hSw; (try dsimp only at hSw); go_simp <;> with_reducible rfl)
  try simp only [Act.put, List.setIfInBounds_toArray, List.set_cons_zero, List.set_cons_succ]
  -- 8: t12 := nilCheck t11 : 0
  refine wpB_take (i := 8) (v := ?_) (get_of_drop rfl) (by kernel_rfl) (by kernel_rfl) (by kernel_rfl) (by kernel_rfl) (fun _ _ _ h => h) (Or.inl ⟨by rfl, ?_⟩) hHeld ?_
  rotate_left
  · (intro w hSw; (try dsimp only at hSw); go_simp <;> with_reducible rfl)
  try simp only [Act.put, List.setIfInBounds_toArray, List.set_cons_zero, List.set_cons_succ]
  -- 9: t13 := fieldAddr 62 t12 2 : 0
  refine wpB_take (i := 9) (v := ?_) (get_of_drop rfl) (by kernel_rfl) (by kernel_rfl) (by kernel_rfl) (by kernel_rfl) (fun _ _ _ h => h) (Or.inl ⟨by rfl, ?_⟩) hHeld ?_
  rotate_left
  · (intro w hSw; (try dsimp only at hSw); go_simp <;> with_reducible rfl)
  try simp only [Act.put, List.setIfInBounds_toArray, List.set_cons_zero, List.set_cons_succ]
  -- 10: t14 := buildSlice 138 3 [⟨0, t7⟩, ⟨1, t10⟩, ⟨2, t13⟩] : 138
  refine wpB_act (i := 10) (by kernel_rfl) (get_of_drop rfl) (fun K hK => ?_)
  go_simp
  refine hK.out _ _ ?_ (fun hHeld2 => ?_)
  · exact trivial
  clear hHeld hK K
  have hHeld := hHeld2
  clear hHeld2
  try simp only [Act.put, List.setIfInBounds_toArray, List.set_cons_zero, List.set_cons_succ]
  -- 11: t15 := CALL fn75(t4, t14) : 0
  refine wpB_act (i := 11) (by kernel_rfl) (get_of_drop rfl) (fun K hK => ?_)
  go_simp
  have CC := hid (show Chg (fun _ => False) w (w.alloc (.cells (ptrs p 3).toArray 130)).drew from ((Chg.refl _ w).alloc _).drew)
  have hnum := num_r (vs := vs) (r := [Value.slice none 0 0]) (p := p) (tp := tp) (R := fun k => k = w.heap.size) (cl := 3) (H.out.chg CC.out (fun _ h => h.elim) (fun h => h)) (by rw [hvs]; exact lit_sees w (ptrs p 3).toArray 130) (fun k hk => by have := HPL.out; have := HGL.out; omega) (CC.out.blk HP.out (fun h => h)) hpB hpg HWF.out (by omega) (by omega)
  rw [hvs] at hnum
  refine hnum.mono ?_
  rintro e' w1 ⟨rfl, us, hus, hw, hblk, hchg, at1, bad1, hrd, heq⟩
  have HT := hid (And.intro hus (And.intro hw (And.intro hblk (And.intro ((CC.out.mono (S' := fun j => j = g ∨ j = p) (fun _ h _ => h.elim)).trans hchg (fun _ h _ => h)) (And.intro hrd heq)))))
  clear hus hw hblk hchg hrd heq
  refine hK.out _ _ ?_ (fun hHeld2 => ?_)
  · exact trivial
  clear hHeld hK K
  have hHeld := hHeld2
  clear hHeld2
  try simp only [Act.put, List.setIfInBounds_toArray, List.set_cons_zero, List.set_cons_succ]
  refine wpB_done (by kernel_rfl) ?_ _
  clear hHeld hnum
  obtain ⟨q1, q2, q3, q4, q5, q6⟩ := HT.out
  have Q1 := hid (show us.length = 3 from q1)
  have Q3 := hid q3
  have Q5 := hid q5
  clear q1 q2 q3 q4 q5 q6
  go_wp2_with fail
  refine (ents_r (o := 3) (tp := tp) Q5.out Q3.out (by simp [Q1.out]) hpB hpg hn (L := 54) (by omega) (by omega)).mono ?_
  rintro e' w2 ⟨rfl, xs, A1, c1, hxl, hblk, hvec, hchg, hrd⟩
  have HT2 := hid (And.intro hblk (And.intro hvec (And.intro hchg (And.intro hrd hxl))))
  clear hblk hvec hchg hrd
  go_wp2_with fail
  go_end0
  obtain ⟨u0, u1, u2, hul⟩ : ∃ u0 u1 u2, us = [u0, u1, u2] := by
    match us, Q1.out with
    | [u0, u1, u2], _ => exact ⟨u0, u1, u2, rfl⟩
  subst hul
  obtain ⟨_, w1f, _, ch1, _, eq1⟩ := HT.out
  obtain ⟨b2, v2, ch2, ⟨at2, bad2, rd2, eq2⟩, hl2⟩ := HT2.out
  have hwl : w.heap.size ≤ w1.heap.size := ch1.size
  refine ⟨rfl, mkRec [u0, u1, u2] xs, A1, xs.length, c1, w1f, v2.at.mono (fun k hk => by rcases hk with hk | hk <;> omega), b2, ch1.trans ch2 (fun _ h _ => h), ⟨at2, bad2, rd2, thenRd_eq _ eq1 eq2⟩, hl2⟩
end Go.Proofs.Ytfpjickdkkhndaa.Pa


/- The contracts of number, within and a rule's Right, the program's and the document's. -/

namespace Go.Proofs.Ytfpjickdkkhndaa.Pa

set_option linter.unusedVariables false

set_option linter.unusedSimpArgs false

open Go.RowKit Go.Proofs.Ytfpjickdkkhndaa.C

attribute [local go_sem] max2_int min2_int max_two min_two

/-- Is a number right, from a least one on? -/
def numR (lo n : Int) : Bool := decide (lo ≤ n ∧ n ≤ 1099511627776)
def inR (lo hi n : Int) : Bool := decide (lo ≤ n ∧ n ≤ hi)
def ruleR (r : Rule) : Bool := decide (1 ≤ r.id ∧ r.id ≤ 1099511627776 ∧ 0 ≤ r.pri ∧ r.pri ≤ 1000 ∧ 0 ≤ r.act ∧ r.act ≤ 255 ∧ 1 ≤ r.scope ∧ r.scope ≤ 65535 ∧ (r.pat.size : Int) ≤ 256)
theorem ruleR_ok {r : Rule} (h : ruleR r = true) : RuleOk r := by
  have h1 := of_decide_eq_true h
  refine ⟨?_, by omega⟩
  intro u hu
  simp [Rule.nums] at hu
  unfold NumOk
  omega

theorem number_any (n lo : Int) (w : World) : Calls Try.prog 66 #[.int .i64 n, .int .i64 lo] w fun e w' => e = .returned (.bool (numR lo n)) ∧ w = w' := by
  unfold numR
  by_cases h1 : lo ≤ n
  case neg =>
    rw [decide_eq_false (by omega)]
    go_enter Try.func66, Try.ntmps66
    go_wp2_with fail
    go_ret
    exact ⟨rfl, rfl⟩
  by_cases h2 : n ≤ 1099511627776
  case neg =>
    rw [decide_eq_false (by omega)]
    go_enter Try.func66, Try.ntmps66
    go_wp2_with fail
    go_ret
    exact ⟨rfl, rfl⟩
  rw [decide_eq_true (by omega)]
  go_enter Try.func66, Try.ntmps66
  go_wp2_with fail
  go_ret
  exact ⟨rfl, rfl⟩
theorem within_any (n lo hi : Int) (w : World) : Calls Try.prog 49 #[.int .i64 n, .int .i64 lo, .int .i64 hi] w fun e w' => e = .returned (.bool (inR lo hi n)) ∧ w = w' := by
  unfold inR
  by_cases h1 : lo ≤ n
  case neg =>
    rw [decide_eq_false (by omega)]
    go_enter Try.func49, Try.ntmps49
    go_wp2_with fail
    go_ret
    exact ⟨rfl, rfl⟩
  by_cases h2 : n ≤ hi
  case neg =>
    rw [decide_eq_false (by omega)]
    go_enter Try.func49, Try.ntmps49
    go_wp2_with fail
    go_ret
    exact ⟨rfl, rfl⟩
  rw [decide_eq_true (by omega)]
  go_enter Try.func49, Try.ntmps49
  go_wp2_with fail
  go_ret
  exact ⟨rfl, rfl⟩

set_option maxHeartbeats 4000000 in
set_option maxRecDepth 100000 in
theorem ruleright_any (r : Rule) (w : World) : Calls Try.prog 71 #[.agg (ruleCells r).toArray] w fun e w' => e = .returned (.bool (ruleR r)) ∧ Chg (fun _ => False) w w' := by
  unfold ruleR
  by_cases h1 : 1 ≤ r.id
  case neg =>
    rw [decide_eq_false (by omega)]
    show Calls Try.prog _ #[.agg #[.int .i64 r.id, .int .i64 r.pri, .int .i64 r.act, .int .i64 r.scope, .string r.pat]] w _
    go_enter Try.func71, Try.ntmps71
    go_wp2_with fail
    go_ret
    exact ⟨rfl, (Chg.refl _ w).alloc _⟩
  by_cases h2 : r.id ≤ 1099511627776
  case neg =>
    rw [decide_eq_false (by omega)]
    show Calls Try.prog _ #[.agg #[.int .i64 r.id, .int .i64 r.pri, .int .i64 r.act, .int .i64 r.scope, .string r.pat]] w _
    go_enter Try.func71, Try.ntmps71
    go_wp2_with fail
    go_ret
    exact ⟨rfl, (Chg.refl _ w).alloc _⟩
  by_cases h3 : 0 ≤ r.pri
  case neg =>
    rw [decide_eq_false (by omega)]
    show Calls Try.prog _ #[.agg #[.int .i64 r.id, .int .i64 r.pri, .int .i64 r.act, .int .i64 r.scope, .string r.pat]] w _
    go_enter Try.func71, Try.ntmps71
    go_wp2_with fail
    go_ret
    exact ⟨rfl, (Chg.refl _ w).alloc _⟩
  by_cases h4 : r.pri ≤ 1000
  case neg =>
    rw [decide_eq_false (by omega)]
    show Calls Try.prog _ #[.agg #[.int .i64 r.id, .int .i64 r.pri, .int .i64 r.act, .int .i64 r.scope, .string r.pat]] w _
    go_enter Try.func71, Try.ntmps71
    go_wp2_with fail
    go_ret
    exact ⟨rfl, (Chg.refl _ w).alloc _⟩
  by_cases h5 : 0 ≤ r.act
  case neg =>
    rw [decide_eq_false (by omega)]
    show Calls Try.prog _ #[.agg #[.int .i64 r.id, .int .i64 r.pri, .int .i64 r.act, .int .i64 r.scope, .string r.pat]] w _
    go_enter Try.func71, Try.ntmps71
    go_wp2_with fail
    go_ret
    exact ⟨rfl, (Chg.refl _ w).alloc _⟩
  by_cases h6 : r.act ≤ 255
  case neg =>
    rw [decide_eq_false (by omega)]
    show Calls Try.prog _ #[.agg #[.int .i64 r.id, .int .i64 r.pri, .int .i64 r.act, .int .i64 r.scope, .string r.pat]] w _
    go_enter Try.func71, Try.ntmps71
    go_wp2_with fail
    go_ret
    exact ⟨rfl, (Chg.refl _ w).alloc _⟩
  by_cases h7 : 1 ≤ r.scope
  case neg =>
    rw [decide_eq_false (by omega)]
    show Calls Try.prog _ #[.agg #[.int .i64 r.id, .int .i64 r.pri, .int .i64 r.act, .int .i64 r.scope, .string r.pat]] w _
    go_enter Try.func71, Try.ntmps71
    go_wp2_with fail
    go_ret
    exact ⟨rfl, (Chg.refl _ w).alloc _⟩
  by_cases h8 : r.scope ≤ 65535
  case neg =>
    rw [decide_eq_false (by omega)]
    show Calls Try.prog _ #[.agg #[.int .i64 r.id, .int .i64 r.pri, .int .i64 r.act, .int .i64 r.scope, .string r.pat]] w _
    go_enter Try.func71, Try.ntmps71
    go_wp2_with fail
    go_ret
    exact ⟨rfl, (Chg.refl _ w).alloc _⟩
  by_cases h9 : (r.pat.size : Int) ≤ 256
  case neg =>
    rw [decide_eq_false (by omega)]
    show Calls Try.prog _ #[.agg #[.int .i64 r.id, .int .i64 r.pri, .int .i64 r.act, .int .i64 r.scope, .string r.pat]] w _
    go_enter Try.func71, Try.ntmps71
    go_wp2_with fail
    go_ret
    exact ⟨rfl, (Chg.refl _ w).alloc _⟩
  rw [decide_eq_true (by omega)]
  show Calls Try.prog _ #[.agg #[.int .i64 r.id, .int .i64 r.pri, .int .i64 r.act, .int .i64 r.scope, .string r.pat]] w _
  go_enter Try.func71, Try.ntmps71
  go_wp2_with fail
  go_ret
  exact ⟨rfl, (Chg.refl _ w).alloc _⟩

set_option maxHeartbeats 4000000 in
set_option maxRecDepth 100000 in
theorem refruleright_any (r : Rule) (w : World) : Calls Try.prog 74 #[.agg (ruleCells r).toArray] w fun e w' => e = .returned (.bool (ruleR r)) ∧ Chg (fun _ => False) w w' := by
  unfold ruleR
  by_cases h1 : 1 ≤ r.id
  case neg =>
    rw [decide_eq_false (by omega)]
    show Calls Try.prog _ #[.agg #[.int .i64 r.id, .int .i64 r.pri, .int .i64 r.act, .int .i64 r.scope, .string r.pat]] w _
    go_enter Try.func74, Try.ntmps74
    go_wp2_with fail
    go_ret
    exact ⟨rfl, (Chg.refl _ w).alloc _⟩
  by_cases h2 : r.id ≤ 1099511627776
  case neg =>
    rw [decide_eq_false (by omega)]
    show Calls Try.prog _ #[.agg #[.int .i64 r.id, .int .i64 r.pri, .int .i64 r.act, .int .i64 r.scope, .string r.pat]] w _
    go_enter Try.func74, Try.ntmps74
    go_wp2_with fail
    go_ret
    exact ⟨rfl, (Chg.refl _ w).alloc _⟩
  by_cases h3 : 0 ≤ r.pri
  case neg =>
    rw [decide_eq_false (by omega)]
    show Calls Try.prog _ #[.agg #[.int .i64 r.id, .int .i64 r.pri, .int .i64 r.act, .int .i64 r.scope, .string r.pat]] w _
    go_enter Try.func74, Try.ntmps74
    go_wp2_with fail
    go_ret
    exact ⟨rfl, (Chg.refl _ w).alloc _⟩
  by_cases h4 : r.pri ≤ 1000
  case neg =>
    rw [decide_eq_false (by omega)]
    show Calls Try.prog _ #[.agg #[.int .i64 r.id, .int .i64 r.pri, .int .i64 r.act, .int .i64 r.scope, .string r.pat]] w _
    go_enter Try.func74, Try.ntmps74
    go_wp2_with fail
    go_ret
    exact ⟨rfl, (Chg.refl _ w).alloc _⟩
  by_cases h5 : 0 ≤ r.act
  case neg =>
    rw [decide_eq_false (by omega)]
    show Calls Try.prog _ #[.agg #[.int .i64 r.id, .int .i64 r.pri, .int .i64 r.act, .int .i64 r.scope, .string r.pat]] w _
    go_enter Try.func74, Try.ntmps74
    go_wp2_with fail
    go_ret
    exact ⟨rfl, (Chg.refl _ w).alloc _⟩
  by_cases h6 : r.act ≤ 255
  case neg =>
    rw [decide_eq_false (by omega)]
    show Calls Try.prog _ #[.agg #[.int .i64 r.id, .int .i64 r.pri, .int .i64 r.act, .int .i64 r.scope, .string r.pat]] w _
    go_enter Try.func74, Try.ntmps74
    go_wp2_with fail
    go_ret
    exact ⟨rfl, (Chg.refl _ w).alloc _⟩
  by_cases h7 : 1 ≤ r.scope
  case neg =>
    rw [decide_eq_false (by omega)]
    show Calls Try.prog _ #[.agg #[.int .i64 r.id, .int .i64 r.pri, .int .i64 r.act, .int .i64 r.scope, .string r.pat]] w _
    go_enter Try.func74, Try.ntmps74
    go_wp2_with fail
    go_ret
    exact ⟨rfl, (Chg.refl _ w).alloc _⟩
  by_cases h8 : r.scope ≤ 65535
  case neg =>
    rw [decide_eq_false (by omega)]
    show Calls Try.prog _ #[.agg #[.int .i64 r.id, .int .i64 r.pri, .int .i64 r.act, .int .i64 r.scope, .string r.pat]] w _
    go_enter Try.func74, Try.ntmps74
    go_wp2_with fail
    go_ret
    exact ⟨rfl, (Chg.refl _ w).alloc _⟩
  by_cases h9 : (r.pat.size : Int) ≤ 256
  case neg =>
    rw [decide_eq_false (by omega)]
    show Calls Try.prog _ #[.agg #[.int .i64 r.id, .int .i64 r.pri, .int .i64 r.act, .int .i64 r.scope, .string r.pat]] w _
    go_enter Try.func74, Try.ntmps74
    go_wp2_with fail
    go_ret
    exact ⟨rfl, (Chg.refl _ w).alloc _⟩
  rw [decide_eq_true (by omega)]
  show Calls Try.prog _ #[.agg #[.int .i64 r.id, .int .i64 r.pri, .int .i64 r.act, .int .i64 r.scope, .string r.pat]] w _
  go_enter Try.func74, Try.ntmps74
  go_wp2_with fail
  go_ret
  exact ⟨rfl, (Chg.refl _ w).alloc _⟩
end Go.Proofs.Ytfpjickdkkhndaa.Pa


/- The contracts of slices.ContainsFunc at rules and numbers. -/

namespace Go.Proofs.Ytfpjickdkkhndaa.Pa

set_option linter.unusedVariables false

set_option linter.unusedSimpArgs false

open Go.RowKit Go.Proofs.Ytfpjickdkkhndaa.C

attribute [local go_sem] max2_int min2_int max_two min_two

theorem ruleq_clo (r : Rule) (w : World)  : Calls Try.prog 70 #[.agg (ruleCells r).toArray] w fun e w' => e = .returned (.bool (!(ruleR r))) ∧ Chg (fun _ => False) w w' := by
  show Calls Try.prog _ #[.agg #[.int .i64 r.id, .int .i64 r.pri, .int .i64 r.act, .int .i64 r.scope, .string r.pat]] w _
  go_enter Try.func70, Try.ntmps70
  go_wp2_with fail
  refine (ruleright_any r _).mono ?_
  rintro e w1 ⟨rfl, h1⟩
  have H1 := hid (((Chg.refl (fun _ => False) w).alloc _).trans h1 (fun _ h _ => h))
  clear h1
  go_wp2_with fail
  go_ret
  exact ⟨rfl, H1.out⟩
/-- slices.IndexFunc: is there one that isn't right? -/
def RuleqIdx (xs : List (Rule)) (w : World) (e : Ending) (w' : World) : Prop := (∃ i : Int, e = .returned (.int .i64 i) ∧ decide (0 ≤ i) = !(xs.all (fun r => ruleR r))) ∧ Chg (fun _ => False) w w'
theorem ruleq_allk {xs : List (Rule)} {k : Nat} {r : Rule} (h : xs[k]? = some r) : (xs.take (k + 1)).all (fun r => ruleR r) = ((xs.take k).all (fun r => ruleR r) && ruleR r) := by
  rw [List.take_add_one, h, Option.toList_some, List.all_append]
  simp
theorem ruleq_alln {xs : List (Rule)} {k : Nat} (h : (xs.take k).all (fun r => ruleR r) = false) : xs.all (fun r => ruleR r) = false := by
  rw [← List.take_append_drop k xs, List.all_append, h]
  rfl
set_option maxHeartbeats 4000000 in
set_option maxRecDepth 100000 in
theorem ruleq_idx {R : Nat → Prop} {A : Option Addr} {n c : Nat} {xs : List (Rule)} {w : World} (hl : Ty.At ruleK w R A n c xs) :
    Calls Try.prog 82 #[.slice A n c, .func (.func 70) #[] #[]] w (RuleqIdx xs w) := by
  have HL := hid hl
  have hn2 : (n : Int) ≤ 9223372036854775807 := by have q1 := hl.2.1; have q2 := hl.2.2.1; simp [maxLen] at q2; omega
  have eg : ∀ args w, (callFunc 70 args).run Try.prog w = .ok (.enter 70 args) w := Go.Proofs.enters_of Try.func70 (by kernel_rfl) rfl
  clear hl
  go_enter Try.func82, Try.ntmps82
  go_wp2_with fail
  go_loopw [8] (fun i wr => ∃ k : Nat, k ≤ n ∧ i = .int .i64 k ∧ (xs.take k).all (fun r => ruleR r) = true ∧ Chg (fun _ => False) w wr) (fun i _ => n - (intOf i).toNat)
  case atStart => exact ⟨0, Nat.zero_le _, rfl, rfl, Chg.refl _ _⟩
  case round =>
    obtain ⟨k, hk, rfl, hp, hC⟩ := hrel
    have HP := hid hp
    have HC := hid hC
    clear hp
    by_cases hlt : k < n
    · obtain ⟨r, hr⟩ : ∃ r, xs[k]? = some r := ⟨_, List.getElem?_eq_getElem (by have := HL.out.1; omega)⟩
      obtain ⟨a, cs, ha, haR, hK, hcs⟩ := HL.out.get (by decide) hr
      obtain ⟨rfl, hrw⟩ := rule_open hK
      clear hrw
      subst ha
      have hcs2 : ∀ j u, (ruleCells r)[j]? = some u → wr.cell? (a.add (k * 5 + j)) = some u := fun j u hj => hC.cell (hcs j u hj) (fun h => h)
      have x0 := elem_cell0 hcs2 _ rfl
      have x1 := elem_cell hcs2 0 _ rfl
      have x2 := elem_cell hcs2 1 _ rfl
      have x3 := elem_cell hcs2 2 _ rfl
      have x4 := elem_cell hcs2 3 _ rfl
      have HN := hid (ruleq_allk hr)
      have HX := hid (ruleq_alln (xs := xs) (k := k + 1))
      clear hcs hK hcs2 hr haR hC
      have hlt2 : (k : Int) < (n : Int) := by omega
      go_wp2_with fail
      refine (ruleq_clo r _).mono ?_
      rintro e w2 ⟨rfl, h2⟩
      have HC2 := hid (HC.out.trans h2 (fun _ h _ => h))
      clear h2 x0 x1 x2 x3 x4
      cases hrr : ruleR r
      · have HF := hid (HX.out (by rw [HN.out, hrr, Bool.and_false]))
        clear hrr
        go_wp2_with fail
        go_ret
        exact ⟨⟨(k : Int), rfl, by rw [HF.out]; simp⟩, HC2.out⟩
      · have HF := hid (show (xs.take (k + 1)).all (fun r => ruleR r) = true by rw [HN.out, HP.out, hrr]; rfl)
        clear hrr
        go_wp2_with fail
        go_roundw
        case measure => simp [intOf]; omega
        case rel => first | exact ⟨k + 1, hlt, by go_num, HF.out, HC2.out⟩ | ((repeat apply Exists.intro); exact ⟨⟨k + 1, hlt, by go_num, HF.out, HC2.out⟩, rfl⟩)
    · clear eg hC
      have hkn : ¬ (k : Int) < (n : Int) := by omega
      go_wp2_with fail
      go_ret
      have hp := HP.out
      rw [List.take_of_length_le (by have := HL.out.1; omega)] at hp
      exact ⟨⟨-1, rfl, by rw [hp]; rfl⟩, HC.out⟩
set_option maxHeartbeats 4000000 in
set_option maxRecDepth 100000 in
theorem ruleq_contains {R : Nat → Prop} {A : Option Addr} {n c : Nat} {xs : List (Rule)} {w : World} (hl : Ty.At ruleK w R A n c xs) :
    Calls Try.prog 69 #[.slice A n c, .func (.func 70) #[] #[]] w fun e w' => e = .returned (.bool (!(xs.all (fun r => ruleR r)))) ∧ Chg (fun _ => False) w w' := by
  have HL := hid hl
  clear hl
  go_enter Try.func69, Try.ntmps69
  go_wp2_with fail
  refine (ruleq_idx HL.out).mono ?_
  rintro e w1 ⟨⟨i, rfl, hi⟩, hc⟩
  have HI := hid hi
  have HC := hid hc
  clear hi hc
  go_wp2_with fail
  go_ret
  exact ⟨by rw [← HI.out]; rfl, HC.out⟩

theorem numq_clo (r : Int) (w : World)  : Calls Try.prog 73 #[.int .i64 r] w fun e w' => e = .returned (.bool (!(numR 1 r))) ∧ Chg (fun _ => False) w w' := by
  go_enter Try.func73, Try.ntmps73
  go_wp2_with fail
  refine (number_any r 1 _).mono ?_
  rintro e w1 ⟨rfl, rfl⟩
  go_wp2_with fail
  go_ret
  exact ⟨rfl, Chg.refl _ _⟩
/-- slices.IndexFunc: is there one that isn't right? -/
def NumqIdx (xs : List (Int)) (w : World) (e : Ending) (w' : World) : Prop := (∃ i : Int, e = .returned (.int .i64 i) ∧ decide (0 ≤ i) = !(xs.all (fun r => numR 1 r))) ∧ Chg (fun _ => False) w w'
theorem numq_allk {xs : List (Int)} {k : Nat} {r : Int} (h : xs[k]? = some r) : (xs.take (k + 1)).all (fun r => numR 1 r) = ((xs.take k).all (fun r => numR 1 r) && numR 1 r) := by
  rw [List.take_add_one, h, Option.toList_some, List.all_append]
  simp
theorem numq_alln {xs : List (Int)} {k : Nat} (h : (xs.take k).all (fun r => numR 1 r) = false) : xs.all (fun r => numR 1 r) = false := by
  rw [← List.take_append_drop k xs, List.all_append, h]
  rfl
set_option maxHeartbeats 4000000 in
set_option maxRecDepth 100000 in
theorem numq_idx {R : Nat → Prop} {A : Option Addr} {n c : Nat} {xs : List (Int)} {w : World} (hl : Ty.At (Ty.int .i64) w R A n c xs) :
    Calls Try.prog 83 #[.slice A n c, .func (.func 73) #[] #[]] w (NumqIdx xs w) := by
  have HL := hid hl
  have hn2 : (n : Int) ≤ 9223372036854775807 := by have q1 := hl.2.1; have q2 := hl.2.2.1; simp [maxLen] at q2; omega
  have eg : ∀ args w, (callFunc 73 args).run Try.prog w = .ok (.enter 73 args) w := Go.Proofs.enters_of Try.func73 (by kernel_rfl) rfl
  clear hl
  go_enter Try.func83, Try.ntmps83
  go_wp2_with fail
  go_loopw [8] (fun i wr => ∃ k : Nat, k ≤ n ∧ i = .int .i64 k ∧ (xs.take k).all (fun r => numR 1 r) = true ∧ Chg (fun _ => False) w wr) (fun i _ => n - (intOf i).toNat)
  case atStart => exact ⟨0, Nat.zero_le _, rfl, rfl, Chg.refl _ _⟩
  case round =>
    obtain ⟨k, hk, rfl, hp, hC⟩ := hrel
    have HP := hid hp
    have HC := hid hC
    clear hp
    by_cases hlt : k < n
    · obtain ⟨r, hr⟩ : ∃ r, xs[k]? = some r := ⟨_, List.getElem?_eq_getElem (by have := HL.out.1; omega)⟩
      obtain ⟨a, cs, ha, haR, hK, hcs⟩ := HL.out.get (by decide) hr
      obtain ⟨rfl, hrw⟩ := (id hK)
      clear hrw
      subst ha
      have hcs2 : ∀ j u, ([Value.int .i64 r])[j]? = some u → wr.cell? (a.add (k * 1 + j)) = some u := fun j u hj => hC.cell (hcs j u hj) (fun h => h)
      have x0 := elem_cell0 hcs2 _ rfl
      rw [Nat.mul_one] at x0
      have HN := hid (numq_allk hr)
      have HX := hid (numq_alln (xs := xs) (k := k + 1))
      clear hcs hK hcs2 hr haR hC
      have hlt2 : (k : Int) < (n : Int) := by omega
      go_wp2_with fail
      refine (numq_clo r _).mono ?_
      rintro e w2 ⟨rfl, h2⟩
      have HC2 := hid (HC.out.trans h2 (fun _ h _ => h))
      clear h2 x0
      cases hrr : numR 1 r
      · have HF := hid (HX.out (by rw [HN.out, hrr, Bool.and_false]))
        clear hrr
        go_wp2_with fail
        go_ret
        exact ⟨⟨(k : Int), rfl, by rw [HF.out]; simp⟩, HC2.out⟩
      · have HF := hid (show (xs.take (k + 1)).all (fun r => numR 1 r) = true by rw [HN.out, HP.out, hrr]; rfl)
        clear hrr
        go_wp2_with fail
        go_roundw
        case measure => simp [intOf]; omega
        case rel => first | exact ⟨k + 1, hlt, by go_num, HF.out, HC2.out⟩ | ((repeat apply Exists.intro); exact ⟨⟨k + 1, hlt, by go_num, HF.out, HC2.out⟩, rfl⟩)
    · clear eg hC
      have hkn : ¬ (k : Int) < (n : Int) := by omega
      go_wp2_with fail
      go_ret
      have hp := HP.out
      rw [List.take_of_length_le (by have := HL.out.1; omega)] at hp
      exact ⟨⟨-1, rfl, by rw [hp]; rfl⟩, HC.out⟩
set_option maxHeartbeats 4000000 in
set_option maxRecDepth 100000 in
theorem numq_contains {R : Nat → Prop} {A : Option Addr} {n c : Nat} {xs : List (Int)} {w : World} (hl : Ty.At (Ty.int .i64) w R A n c xs) :
    Calls Try.prog 72 #[.slice A n c, .func (.func 73) #[] #[]] w fun e w' => e = .returned (.bool (!(xs.all (fun r => numR 1 r)))) ∧ Chg (fun _ => False) w w' := by
  have HL := hid hl
  clear hl
  go_enter Try.func72, Try.ntmps72
  go_wp2_with fail
  refine (numq_idx HL.out).mono ?_
  rintro e w1 ⟨⟨i, rfl, hi⟩, hc⟩
  have HI := hid hi
  have HC := hid hc
  clear hi hc
  go_wp2_with fail
  go_ret
  exact ⟨by rw [← HI.out]; rfl, HC.out⟩
end Go.Proofs.Ytfpjickdkkhndaa.Pa


/- The contracts of an entry's Right, the program's and the document's. -/

namespace Go.Proofs.Ytfpjickdkkhndaa.Pa

set_option linter.unusedVariables false

set_option linter.unusedSimpArgs false

open Go.RowKit Go.Proofs.Ytfpjickdkkhndaa.C

attribute [local go_sem] max2_int min2_int max_two min_two

def entryR (e : Entry) : Bool := numR 0 e.view && numR 1 e.client && numR 1 e.request && numR (-1) e.dflt && numR (-1) e.closed && numR (-1) e.fuel && numR (-1) e.stack && decide (e.put.length ≤ 16) && decide (e.drop.length ≤ 16) && e.put.all (fun r => ruleR r) && e.drop.all (fun r => numR 1 r)
theorem numR_ok {lo n : Int} (h : numR lo n = true) (hl : -1 ≤ lo) : NumOk n := by
  have := of_decide_eq_true h
  unfold NumOk
  omega
theorem entryR_ok {e : Entry} (h : entryR e = true) : EntryOk e := by
  unfold entryR at h
  simp only [Bool.and_eq_true, decide_eq_true_eq, List.all_eq_true] at h
  obtain ⟨⟨⟨⟨⟨⟨⟨⟨⟨⟨h1, h2⟩, h3⟩, h4⟩, h5⟩, h6⟩, h7⟩, h8⟩, h9⟩, h10⟩, h11⟩ := h
  refine ⟨?_, fun r hr => ruleR_ok (h10 r hr), fun u hu => numR_ok (h11 u hu) (by decide), by omega, by omega⟩
  intro u hu
  simp [Entry.nums] at hu
  rcases hu with rfl | rfl | rfl | rfl | rfl | rfl | rfl
  · exact numR_ok h1 (by decide)
  · exact numR_ok h2 (by decide)
  · exact numR_ok h3 (by decide)
  · exact numR_ok h4 (by decide)
  · exact numR_ok h5 (by decide)
  · exact numR_ok h6 (by decide)
  · exact numR_ok h7 (by decide)

set_option maxHeartbeats 4000000 in
set_option maxRecDepth 100000 in
theorem entryright_any {R : Nat → Prop} {e : Entry} {A1 : Option Addr} {n1 c1 : Nat} {A2 : Option Addr} {n2 c2 : Nat} {w : World} (he : EntryAt w R e A1 n1 c1 A2 n2 c2) :
    Calls Try.prog 47 #[.agg (entryCells e A1 n1 c1 A2 n2 c2).toArray] w fun e' w' => e' = .returned (.bool (entryR e)) ∧ Chg (fun _ => False) w w' := by
  show Calls Try.prog _ #[.agg #[.int .i64 e.view, .int .i64 e.client, .int .i64 e.request, .int .i64 e.dflt, .int .i64 e.closed, .int .i64 e.fuel, .int .i64 e.stack, .slice A1 n1 c1, .slice A2 n2 c2]] w _
  obtain ⟨w0, hwb⟩ : ∃ w0, w0 = (w.alloc (.cells #[.int .i64 e.view, .int .i64 e.client, .int .i64 e.request, .int .i64 e.dflt, .int .i64 e.closed, .int .i64 e.fuel, .int .i64 e.stack, .slice A1 n1 c1, .slice A2 n2 c2] 52)).alloc (.cells #[.int .i64 e.dflt, .int .i64 e.closed, .int .i64 e.fuel, .int .i64 e.stack, .slice A1 n1 c1, .slice A2 n2 c2] 50) := ⟨_, rfl⟩
  have CB := hid (show Chg (fun _ => False) w w0 by rw [hwb]; exact ((Chg.refl _ w).alloc _).alloc _)
  have B1 := hid (show w0.heap[w.heap.size]? = some (.cells #[.int .i64 e.view, .int .i64 e.client, .int .i64 e.request, .int .i64 e.dflt, .int .i64 e.closed, .int .i64 e.fuel, .int .i64 e.stack, .slice A1 n1 c1, .slice A2 n2 c2] 52 (0, 0)) by rw [hwb]; exact blk_alloc (blk_new w _) _)
  have B2 := hid (show w0.heap[w.heap.size + 1]? = some (.cells #[.int .i64 e.dflt, .int .i64 e.closed, .int .i64 e.fuel, .int .i64 e.stack, .slice A1 n1 c1, .slice A2 n2 c2] 50 (0, 0)) by
    rw [hwb]
    have := blk_new (w.alloc (.cells #[.int .i64 e.view, .int .i64 e.client, .int .i64 e.request, .int .i64 e.dflt, .int .i64 e.closed, .int .i64 e.fuel, .int .i64 e.stack, .slice A1 n1 c1, .slice A2 n2 c2] 52)) (.cells #[.int .i64 e.dflt, .int .i64 e.closed, .int .i64 e.fuel, .int .i64 e.stack, .slice A1 n1 c1, .slice A2 n2 c2] 50)
    simpa using this)
  have HQ1 := hid (he.2.1.chg CB.out (fun _ _ h => h))
  have HQ2 := hid (he.2.2.chg CB.out (fun _ _ h => h))
  have L1 := hid he.2.1.1
  have L2 := hid he.2.2.1
  have hm1' : (n1 : Int) ≤ 9223372036854775807 := by have q1 := he.2.1.2.1; have q2 := he.2.1.2.2.1; simp [maxLen] at q2; omega
  have hm2' : (n2 : Int) ≤ 9223372036854775807 := by have q1 := he.2.2.2.1; have q2 := he.2.2.2.2.1; simp [maxLen] at q2; omega
  clear he
  go_enter Try.func47, Try.ntmps47
  go_wp2_with fail
  rw [← hwb]
  clear hwb
  have x0 : w0.cell? ⟨w.heap.size, 0, none⟩ = _ := cellAt B1.out 0
  have x1 : w0.cell? ⟨w.heap.size, 1, none⟩ = _ := cellAt B1.out 1
  have x2 : w0.cell? ⟨w.heap.size, 2, none⟩ = _ := cellAt B1.out 2
  have y0 : w0.cell? ⟨w.heap.size + 1, 0, none⟩ = _ := cellAt B2.out 0
  have y1 : w0.cell? ⟨w.heap.size + 1, 1, none⟩ = _ := cellAt B2.out 1
  have y2 : w0.cell? ⟨w.heap.size + 1, 2, none⟩ = _ := cellAt B2.out 2
  have y3 : w0.cell? ⟨w.heap.size + 1, 3, none⟩ = _ := cellAt B2.out 3
  have y4 : w0.cell? ⟨w.heap.size + 1, 4, none⟩ = _ := cellAt B2.out 4
  have y5 : w0.cell? ⟨w.heap.size + 1, 5, none⟩ = _ := cellAt B2.out 5
  simp only [List.getElem?_toArray, List.getElem?_cons_zero, List.getElem?_cons_succ] at x0 x1 x2 y0 y1 y2 y3 y4 y5
  go_wp2_with fail
  refine (number_any e.view 0 _).mono ?_
  rintro e' w1 ⟨rfl, rfl⟩
  cases g0 : numR 0 e.view
  · have G := hid g0
    clear g0
    go_wp2_with fail
    go_ret
    exact ⟨by rw [show entryR e = false by simp [entryR, G.out]]; rfl, CB.out⟩
  have G0 := hid g0
  clear g0
  go_wp2_with fail
  refine (number_any e.client 1 _).mono ?_
  rintro e' w1 ⟨rfl, rfl⟩
  cases g1 : numR 1 e.client
  · have G := hid g1
    clear g1
    go_wp2_with fail
    go_ret
    exact ⟨by rw [show entryR e = false by simp [entryR, G.out]]; rfl, CB.out⟩
  have G1 := hid g1
  clear g1
  go_wp2_with fail
  refine (number_any e.request 1 _).mono ?_
  rintro e' w1 ⟨rfl, rfl⟩
  cases g2 : numR 1 e.request
  · have G := hid g2
    clear g2
    go_wp2_with fail
    go_ret
    exact ⟨by rw [show entryR e = false by simp [entryR, G.out]]; rfl, CB.out⟩
  have G2 := hid g2
  clear g2
  go_wp2_with fail
  refine (number_any e.dflt (-1) _).mono ?_
  rintro e' w1 ⟨rfl, rfl⟩
  cases g3 : numR (-1) e.dflt
  · have G := hid g3
    clear g3
    go_wp2_with fail
    go_ret
    exact ⟨by rw [show entryR e = false by simp [entryR, G.out]]; rfl, CB.out⟩
  have G3 := hid g3
  clear g3
  go_wp2_with fail
  refine (number_any e.closed (-1) _).mono ?_
  rintro e' w1 ⟨rfl, rfl⟩
  cases g4 : numR (-1) e.closed
  · have G := hid g4
    clear g4
    go_wp2_with fail
    go_ret
    exact ⟨by rw [show entryR e = false by simp [entryR, G.out]]; rfl, CB.out⟩
  have G4 := hid g4
  clear g4
  go_wp2_with fail
  refine (number_any e.fuel (-1) _).mono ?_
  rintro e' w1 ⟨rfl, rfl⟩
  cases g5 : numR (-1) e.fuel
  · have G := hid g5
    clear g5
    go_wp2_with fail
    go_ret
    exact ⟨by rw [show entryR e = false by simp [entryR, G.out]]; rfl, CB.out⟩
  have G5 := hid g5
  clear g5
  go_wp2_with fail
  refine (number_any e.stack (-1) _).mono ?_
  rintro e' w1 ⟨rfl, rfl⟩
  cases g6 : numR (-1) e.stack
  · have G := hid g6
    clear g6
    go_wp2_with fail
    go_ret
    exact ⟨by rw [show entryR e = false by simp [entryR, G.out]]; rfl, CB.out⟩
  have G6 := hid g6
  clear g6
  by_cases k1 : (n1 : Int) ≤ 16
  case neg =>
    have G := hid (show entryR e = false by unfold entryR; rw [decide_eq_false (show ¬ e.put.length ≤ 16 by have := L1.out; omega)]; simp)
    go_wp2_with fail
    go_ret
    exact ⟨by rw [G.out]; rfl, CB.out⟩
  by_cases k2 : (n2 : Int) ≤ 16
  case neg =>
    have G := hid (show entryR e = false by unfold entryR; rw [decide_eq_false (show ¬ e.drop.length ≤ 16 by have := L2.out; omega)]; simp)
    go_wp2_with fail
    go_ret
    exact ⟨by rw [G.out]; rfl, CB.out⟩
  go_wp2_with fail
  refine (ruleq_contains HQ1.out).mono ?_
  rintro e' w2 ⟨rfl, h2⟩
  have C2 := hid h2
  have z5 := h2.cell y5 (fun h => h)
  clear h2
  cases g8 : e.put.all (fun r => ruleR r)
  · have G := hid (show entryR e = false by simp only [entryR, g8, Bool.and_false, Bool.false_and])
    clear g8
    go_wp2_with fail
    go_ret
    exact ⟨by rw [G.out]; rfl, CB.out.trans C2.out (fun _ h _ => h)⟩
  have G8 := hid g8
  clear g8
  go_wp2_with fail
  refine (numq_contains (HQ2.out.chg C2.out (fun _ _ h => h))).mono ?_
  rintro e' w3 ⟨rfl, h3⟩
  have C3 := hid h3
  clear h3
  have GE := hid (show entryR e = e.drop.all (fun r => numR 1 r) by
    unfold entryR
    rw [G0.out, G1.out, G2.out, G3.out, G4.out, G5.out, G6.out, G8.out, decide_eq_true (show e.put.length ≤ 16 by have := L1.out; omega), decide_eq_true (show e.drop.length ≤ 16 by have := L2.out; omega)]
    rfl)
  go_wp2_with fail
  go_ret
  exact ⟨by rw [GE.out]; simp, (CB.out.trans C2.out (fun _ h _ => h)).trans C3.out (fun _ h _ => h)⟩

set_option maxHeartbeats 4000000 in
set_option maxRecDepth 100000 in
theorem refentryright_any {R : Nat → Prop} {e : Entry} {A1 : Option Addr} {n1 c1 : Nat} {A2 : Option Addr} {n2 c2 : Nat} {w : World} (he : EntryAt w R e A1 n1 c1 A2 n2 c2) :
    Calls Try.prog 48 #[.agg (entryCells e A1 n1 c1 A2 n2 c2).toArray] w fun e' w' => e' = .returned (.bool (entryR e)) ∧ Chg (fun _ => False) w w' := by
  show Calls Try.prog _ #[.agg #[.int .i64 e.view, .int .i64 e.client, .int .i64 e.request, .int .i64 e.dflt, .int .i64 e.closed, .int .i64 e.fuel, .int .i64 e.stack, .slice A1 n1 c1, .slice A2 n2 c2]] w _
  obtain ⟨w0, hwb⟩ : ∃ w0, w0 = (w.alloc (.cells #[.int .i64 e.view, .int .i64 e.client, .int .i64 e.request, .int .i64 e.dflt, .int .i64 e.closed, .int .i64 e.fuel, .int .i64 e.stack, .slice A1 n1 c1, .slice A2 n2 c2] 100)).alloc (.cells #[.int .i64 e.dflt, .int .i64 e.closed, .int .i64 e.fuel, .int .i64 e.stack, .slice A1 n1 c1, .slice A2 n2 c2] 98) := ⟨_, rfl⟩
  have CB := hid (show Chg (fun _ => False) w w0 by rw [hwb]; exact ((Chg.refl _ w).alloc _).alloc _)
  have B1 := hid (show w0.heap[w.heap.size]? = some (.cells #[.int .i64 e.view, .int .i64 e.client, .int .i64 e.request, .int .i64 e.dflt, .int .i64 e.closed, .int .i64 e.fuel, .int .i64 e.stack, .slice A1 n1 c1, .slice A2 n2 c2] 100 (0, 0)) by rw [hwb]; exact blk_alloc (blk_new w _) _)
  have B2 := hid (show w0.heap[w.heap.size + 1]? = some (.cells #[.int .i64 e.dflt, .int .i64 e.closed, .int .i64 e.fuel, .int .i64 e.stack, .slice A1 n1 c1, .slice A2 n2 c2] 98 (0, 0)) by
    rw [hwb]
    have := blk_new (w.alloc (.cells #[.int .i64 e.view, .int .i64 e.client, .int .i64 e.request, .int .i64 e.dflt, .int .i64 e.closed, .int .i64 e.fuel, .int .i64 e.stack, .slice A1 n1 c1, .slice A2 n2 c2] 100)) (.cells #[.int .i64 e.dflt, .int .i64 e.closed, .int .i64 e.fuel, .int .i64 e.stack, .slice A1 n1 c1, .slice A2 n2 c2] 98)
    simpa using this)
  have HQ1 := hid (he.2.1.chg CB.out (fun _ _ h => h))
  have HQ2 := hid (he.2.2.chg CB.out (fun _ _ h => h))
  have L1 := hid he.2.1.1
  have L2 := hid he.2.2.1
  have hm1' : (n1 : Int) ≤ 9223372036854775807 := by have q1 := he.2.1.2.1; have q2 := he.2.1.2.2.1; simp [maxLen] at q2; omega
  have hm2' : (n2 : Int) ≤ 9223372036854775807 := by have q1 := he.2.2.2.1; have q2 := he.2.2.2.2.1; simp [maxLen] at q2; omega
  clear he
  go_enter Try.func48, Try.ntmps48
  go_wp2_with fail
  rw [← hwb]
  clear hwb
  have x0 : w0.cell? ⟨w.heap.size, 0, none⟩ = _ := cellAt B1.out 0
  have x1 : w0.cell? ⟨w.heap.size, 1, none⟩ = _ := cellAt B1.out 1
  have x2 : w0.cell? ⟨w.heap.size, 2, none⟩ = _ := cellAt B1.out 2
  have y0 : w0.cell? ⟨w.heap.size + 1, 0, none⟩ = _ := cellAt B2.out 0
  have y1 : w0.cell? ⟨w.heap.size + 1, 1, none⟩ = _ := cellAt B2.out 1
  have y2 : w0.cell? ⟨w.heap.size + 1, 2, none⟩ = _ := cellAt B2.out 2
  have y3 : w0.cell? ⟨w.heap.size + 1, 3, none⟩ = _ := cellAt B2.out 3
  have y4 : w0.cell? ⟨w.heap.size + 1, 4, none⟩ = _ := cellAt B2.out 4
  have y5 : w0.cell? ⟨w.heap.size + 1, 5, none⟩ = _ := cellAt B2.out 5
  simp only [List.getElem?_toArray, List.getElem?_cons_zero, List.getElem?_cons_succ] at x0 x1 x2 y0 y1 y2 y3 y4 y5
  go_wp2_with fail
  refine (within_any e.view 0 1099511627776 _).mono ?_
  rintro e' w1 ⟨rfl, rfl⟩
  rw [show inR 0 1099511627776 e.view = numR 0 e.view from rfl]
  cases g0 : numR 0 e.view
  · have G := hid g0
    clear g0
    go_wp2_with fail
    go_ret
    exact ⟨by rw [show entryR e = false by simp [entryR, G.out]]; rfl, CB.out⟩
  have G0 := hid g0
  clear g0
  go_wp2_with fail
  refine (within_any e.client 1 1099511627776 _).mono ?_
  rintro e' w1 ⟨rfl, rfl⟩
  rw [show inR 1 1099511627776 e.client = numR 1 e.client from rfl]
  cases g1 : numR 1 e.client
  · have G := hid g1
    clear g1
    go_wp2_with fail
    go_ret
    exact ⟨by rw [show entryR e = false by simp [entryR, G.out]]; rfl, CB.out⟩
  have G1 := hid g1
  clear g1
  go_wp2_with fail
  refine (within_any e.request 1 1099511627776 _).mono ?_
  rintro e' w1 ⟨rfl, rfl⟩
  rw [show inR 1 1099511627776 e.request = numR 1 e.request from rfl]
  cases g2 : numR 1 e.request
  · have G := hid g2
    clear g2
    go_wp2_with fail
    go_ret
    exact ⟨by rw [show entryR e = false by simp [entryR, G.out]]; rfl, CB.out⟩
  have G2 := hid g2
  clear g2
  by_cases k1 : (n1 : Int) ≤ 16
  case neg =>
    have G := hid (show entryR e = false by unfold entryR; rw [decide_eq_false (show ¬ e.put.length ≤ 16 by have := L1.out; omega)]; simp)
    go_wp2_with fail
    go_ret
    exact ⟨by rw [G.out]; rfl, CB.out⟩
  by_cases k2 : (n2 : Int) ≤ 16
  case neg =>
    have G := hid (show entryR e = false by unfold entryR; rw [decide_eq_false (show ¬ e.drop.length ≤ 16 by have := L2.out; omega)]; simp)
    go_wp2_with fail
    go_ret
    exact ⟨by rw [G.out]; rfl, CB.out⟩
  go_wp2_with fail
  refine (within_any e.dflt (-1) 1099511627776 _).mono ?_
  rintro e' w1 ⟨rfl, rfl⟩
  rw [show inR (-1) 1099511627776 e.dflt = numR (-1) e.dflt from rfl]
  cases g3 : numR (-1) e.dflt
  · have G := hid g3
    clear g3
    go_wp2_with fail
    go_ret
    exact ⟨by rw [show entryR e = false by simp [entryR, G.out]]; rfl, CB.out⟩
  have G3 := hid g3
  clear g3
  go_wp2_with fail
  refine (within_any e.closed (-1) 1099511627776 _).mono ?_
  rintro e' w1 ⟨rfl, rfl⟩
  rw [show inR (-1) 1099511627776 e.closed = numR (-1) e.closed from rfl]
  cases g4 : numR (-1) e.closed
  · have G := hid g4
    clear g4
    go_wp2_with fail
    go_ret
    exact ⟨by rw [show entryR e = false by simp [entryR, G.out]]; rfl, CB.out⟩
  have G4 := hid g4
  clear g4
  go_wp2_with fail
  refine (within_any e.fuel (-1) 1099511627776 _).mono ?_
  rintro e' w1 ⟨rfl, rfl⟩
  rw [show inR (-1) 1099511627776 e.fuel = numR (-1) e.fuel from rfl]
  cases g5 : numR (-1) e.fuel
  · have G := hid g5
    clear g5
    go_wp2_with fail
    go_ret
    exact ⟨by rw [show entryR e = false by simp [entryR, G.out]]; rfl, CB.out⟩
  have G5 := hid g5
  clear g5
  go_wp2_with fail
  refine (within_any e.stack (-1) 1099511627776 _).mono ?_
  rintro e' w1 ⟨rfl, rfl⟩
  rw [show inR (-1) 1099511627776 e.stack = numR (-1) e.stack from rfl]
  cases g6 : numR (-1) e.stack
  · have G := hid g6
    clear g6
    go_wp2_with fail
    go_ret
    exact ⟨by rw [show entryR e = false by simp [entryR, G.out]]; rfl, CB.out⟩
  have G6 := hid g6
  clear g6
  have GE := hid (show entryR e = (e.put.all (fun r => ruleR r) && e.drop.all (fun r => numR 1 r)) by
    unfold entryR
    rw [G0.out, G1.out, G2.out, G3.out, G4.out, G5.out, G6.out, decide_eq_true (show e.put.length ≤ 16 by have := L1.out; omega), decide_eq_true (show e.drop.length ≤ 16 by have := L2.out; omega)]
    rfl)
  have Y4 := hid y4
  have Y5 := hid y5
  clear x0 x1 x2 y0 y1 y2 y3 y4 y5
  go_wp2_with fail
  go_loopw [4] (fun i wr => ∃ k : Nat, k ≤ n1 ∧ i = .int .i64 k ∧ (e.put.take k).all (fun r => ruleR r) = true ∧ Chg (fun _ => False) w0 wr) (fun i _ => n1 - (intOf i).toNat)
  case atStart => exact ⟨0, Nat.zero_le _, rfl, rfl, Chg.refl _ _⟩
  case round =>
    obtain ⟨k, hk, rfl, hp, hC⟩ := hrel
    have HP := hid hp
    have HC := hid hC
    have z4 := hC.cell Y4.out (fun h => h)
    clear hp
    by_cases hlt : k < n1
    · obtain ⟨r, hr⟩ : ∃ r, e.put[k]? = some r := ⟨_, List.getElem?_eq_getElem (by have := L1.out; omega)⟩
      obtain ⟨a, cs, ha, haR, hK, hcs⟩ := HQ1.out.get (by decide) hr
      obtain ⟨rfl, hrw⟩ := rule_open hK
      clear hrw
      subst ha
      have hcs2 : ∀ j u, (ruleCells r)[j]? = some u → wr.cell? (a.add (k * 5 + j)) = some u := fun j u hj => hC.cell (hcs j u hj) (fun h => h)
      have x0 := elem_cell0 hcs2 _ rfl
      have x1 := elem_cell hcs2 0 _ rfl
      have x2 := elem_cell hcs2 1 _ rfl
      have x3 := elem_cell hcs2 2 _ rfl
      have x4 := elem_cell hcs2 3 _ rfl
      have HN := hid (ruleq_allk hr)
      have HX := hid (ruleq_alln (xs := e.put) (k := k + 1))
      clear hcs hK hcs2 hr haR hC
      have hlt2 : (k : Int) < (n1 : Int) := by omega
      go_wp2_with fail
      refine (refruleright_any r _).mono ?_
      rintro e' w2 ⟨rfl, h2⟩
      have HC2 := hid (HC.out.trans h2 (fun _ h _ => h))
      clear h2 x0 x1 x2 x3 x4
      cases hrr : ruleR r
      · have HF := hid (HX.out (by rw [HN.out, hrr, Bool.and_false]))
        clear hrr
        go_wp2_with fail
        go_ret
        exact ⟨by rw [GE.out, HF.out]; rfl, CB.out.trans HC2.out (fun _ h _ => h)⟩
      · have HF := hid (show (e.put.take (k + 1)).all (fun r => ruleR r) = true by rw [HN.out, HP.out, hrr]; rfl)
        clear hrr
        go_wp2_with fail
        go_roundw
        case measure => simp [intOf]; omega
        case rel => first | exact ⟨k + 1, hlt, by go_num, HF.out, HC2.out⟩ | ((repeat apply Exists.intro); exact ⟨⟨k + 1, hlt, by go_num, HF.out, HC2.out⟩, rfl⟩)
    · clear hC
      have hkn : ¬ (k : Int) < (n1 : Int) := by omega
      have HPA := hid (show e.put.all (fun r => ruleR r) = true by
        have hp := HP.out
        rwa [List.take_of_length_le (by have := L1.out; omega)] at hp)
      go_wp2_with fail
      clear z4
      obtain ⟨wl, hwl⟩ : ∃ wl, wl = wr := ⟨_, rfl⟩
      have HL2 := hid (show Chg (fun _ => False) w0 wl by rw [hwl]; exact HC.out)
      rw [← hwl]
      clear hwl HC
      go_loopw [5] (fun i wr => ∃ k : Nat, k ≤ n2 ∧ i = .int .i64 k ∧ (e.drop.take k).all (fun r => numR 1 r) = true ∧ Chg (fun _ => False) w0 wr) (fun i _ => n2 - (intOf i).toNat)
      case atStart => exact ⟨0, Nat.zero_le _, rfl, rfl, HL2.out⟩
      case round =>
        obtain ⟨j, hj, rfl, hp, hC⟩ := hrel
        have HP2 := hid hp
        have HC := hid hC
        have z5 := hC.cell Y5.out (fun h => h)
        clear hp
        by_cases hlt : j < n2
        · obtain ⟨r, hr⟩ : ∃ r, e.drop[j]? = some r := ⟨_, List.getElem?_eq_getElem (by have := L2.out; omega)⟩
          obtain ⟨a, cs, ha, haR, hK, hcs⟩ := HQ2.out.get (by decide) hr
          obtain ⟨rfl, hrw⟩ := (id hK)
          clear hrw
          subst ha
          have hcs2 : ∀ i u, [Value.int .i64 r][i]? = some u → wr.cell? (a.add (j * 1 + i)) = some u := fun i u hi => hC.cell (hcs i u hi) (fun h => h)
          have x0 := elem_cell0 hcs2 _ rfl
          rw [Nat.mul_one] at x0
          have HN := hid (numq_allk hr)
          have HX := hid (numq_alln (xs := e.drop) (k := j + 1))
          clear hcs hK hcs2 hr haR hC
          have hlt2 : (j : Int) < (n2 : Int) := by omega
          go_wp2_with fail
          refine (within_any r 1 1099511627776 _).mono ?_
          rintro e' w2 ⟨rfl, rfl⟩
          rw [show inR 1 1099511627776 r = numR 1 r from rfl]
          cases hrr : numR 1 r
          · have HF := hid (HX.out (by rw [HN.out, hrr, Bool.and_false]))
            clear hrr
            go_wp2_with fail
            go_ret
            exact ⟨by rw [GE.out, HF.out, Bool.and_false]; rfl, CB.out.trans HC.out (fun _ h _ => h)⟩
          · have HF := hid (show (e.drop.take (j + 1)).all (fun r => numR 1 r) = true by rw [HN.out, HP2.out, hrr]; rfl)
            clear hrr
            go_wp2_with fail
            go_roundw
            case measure => simp [intOf]; omega
            case rel => first | exact ⟨j + 1, hlt, by go_num, HF.out, HC.out⟩ | ((repeat apply Exists.intro); exact ⟨⟨j + 1, hlt, by go_num, HF.out, HC.out⟩, rfl⟩)
        · clear hC
          have hkn : ¬ (j : Int) < (n2 : Int) := by omega
          go_wp2_with fail
          go_ret
          have hp := HP2.out
          rw [List.take_of_length_le (by have := L2.out; omega)] at hp
          exact ⟨by rw [GE.out, HPA.out, hp]; rfl, CB.out.trans HC.out (fun _ h _ => h)⟩
end Go.Proofs.Ytfpjickdkkhndaa.Pa


/- The contracts of slices.ContainsFunc at entries, and of Right at messages and records, the program's and the document's. -/

namespace Go.Proofs.Ytfpjickdkkhndaa.Pa

set_option linter.unusedVariables false

set_option linter.unusedSimpArgs false

open Go.RowKit Go.Proofs.Ytfpjickdkkhndaa.C

attribute [local go_sem] max2_int min2_int max_two min_two

theorem entq_clo {R : Nat → Prop} {r : Entry} {E1 : Option Addr} {m1 d1 : Nat} {E2 : Option Addr} {m2 d2 : Nat} (w : World) (he : EntryAt w R r E1 m1 d1 E2 m2 d2) : Calls Try.prog 81 #[.agg (entryCells r E1 m1 d1 E2 m2 d2).toArray] w fun e w' => e = .returned (.bool (!(entryR r))) ∧ Chg (fun _ => False) w w' := by
  show Calls Try.prog _ #[.agg #[.int .i64 r.view, .int .i64 r.client, .int .i64 r.request, .int .i64 r.dflt, .int .i64 r.closed, .int .i64 r.fuel, .int .i64 r.stack, .slice E1 m1 d1, .slice E2 m2 d2]] w _
  have HE := hid he
  clear he
  go_enter Try.func81, Try.ntmps81
  go_wp2_with fail
  refine (entryright_any (e := r) (HE.out.chg ((Chg.refl (fun _ => False) w).alloc _) (fun _ _ h => h))).mono ?_
  rintro e w1 ⟨rfl, h1⟩
  have H1 := hid (((Chg.refl (fun _ => False) w).alloc _).trans h1 (fun _ h _ => h))
  clear h1
  go_wp2_with fail
  go_ret
  exact ⟨rfl, H1.out⟩
/-- slices.IndexFunc: is there one that isn't right? -/
def EntqIdx (xs : List (Entry)) (w : World) (e : Ending) (w' : World) : Prop := (∃ i : Int, e = .returned (.int .i64 i) ∧ decide (0 ≤ i) = !(xs.all (fun r => entryR r))) ∧ Chg (fun _ => False) w w'
theorem entq_allk {xs : List (Entry)} {k : Nat} {r : Entry} (h : xs[k]? = some r) : (xs.take (k + 1)).all (fun r => entryR r) = ((xs.take k).all (fun r => entryR r) && entryR r) := by
  rw [List.take_add_one, h, Option.toList_some, List.all_append]
  simp
theorem entq_alln {xs : List (Entry)} {k : Nat} (h : (xs.take k).all (fun r => entryR r) = false) : xs.all (fun r => entryR r) = false := by
  rw [← List.take_append_drop k xs, List.all_append, h]
  rfl
set_option maxHeartbeats 4000000 in
set_option maxRecDepth 100000 in
theorem entq_idx {R : Nat → Prop} {A : Option Addr} {n c : Nat} {xs : List (Entry)} {w : World} (hl : Ty.At entryK w R A n c xs) :
    Calls Try.prog 68 #[.slice A n c, .func (.func 81) #[] #[]] w (EntqIdx xs w) := by
  have HL := hid hl
  have hn2 : (n : Int) ≤ 9223372036854775807 := by have q1 := hl.2.1; have q2 := hl.2.2.1; simp [maxLen] at q2; omega
  have eg : ∀ args w, (callFunc 81 args).run Try.prog w = .ok (.enter 81 args) w := Go.Proofs.enters_of Try.func81 (by kernel_rfl) rfl
  clear hl
  go_enter Try.func68, Try.ntmps68
  go_wp2_with fail
  go_loopw [8] (fun i wr => ∃ k : Nat, k ≤ n ∧ i = .int .i64 k ∧ (xs.take k).all (fun r => entryR r) = true ∧ Chg (fun _ => False) w wr) (fun i _ => n - (intOf i).toNat)
  case atStart => exact ⟨0, Nat.zero_le _, rfl, rfl, Chg.refl _ _⟩
  case round =>
    obtain ⟨k, hk, rfl, hp, hC⟩ := hrel
    have HP := hid hp
    have HC := hid hC
    clear hp
    by_cases hlt : k < n
    · obtain ⟨r, hr⟩ : ∃ r, xs[k]? = some r := ⟨_, List.getElem?_eq_getElem (by have := HL.out.1; omega)⟩
      obtain ⟨a, cs, ha, haR, hK, hcs⟩ := HL.out.get (by decide) hr
      obtain ⟨E1, m1, d1, E2, m2, d2, rfl, hrw⟩ := entry_open (id hK)
      have HRW := hid hrw
      clear hrw
      subst ha
      have hcs2 : ∀ j u, (entryCells r E1 m1 d1 E2 m2 d2)[j]? = some u → wr.cell? (a.add (k * 9 + j)) = some u := fun j u hj => hC.cell (hcs j u hj) (fun h => h)
      have x0 := elem_cell0 hcs2 _ rfl
      have x1 := elem_cell hcs2 0 _ rfl
      have x2 := elem_cell hcs2 1 _ rfl
      have x3 := elem_cell hcs2 2 _ rfl
      have x4 := elem_cell hcs2 3 _ rfl
      have x5 := elem_cell hcs2 4 _ rfl
      have x6 := elem_cell hcs2 5 _ rfl
      have x7 := elem_cell hcs2 6 _ rfl
      have x8 := elem_cell hcs2 7 _ rfl
      have HN := hid (entq_allk hr)
      have HX := hid (entq_alln (xs := xs) (k := k + 1))
      clear hcs hK hcs2 hr haR hC
      have hlt2 : (k : Int) < (n : Int) := by omega
      go_wp2_with fail
      refine (entq_clo _ (HRW.out.chg HC.out (fun _ _ h => h))).mono ?_
      rintro e w2 ⟨rfl, h2⟩
      have HC2 := hid (HC.out.trans h2 (fun _ h _ => h))
      clear h2 x0 x1 x2 x3 x4 x5 x6 x7 x8
      cases hrr : entryR r
      · have HF := hid (HX.out (by rw [HN.out, hrr, Bool.and_false]))
        clear hrr
        go_wp2_with fail
        go_ret
        exact ⟨⟨(k : Int), rfl, by rw [HF.out]; simp⟩, HC2.out⟩
      · have HF := hid (show (xs.take (k + 1)).all (fun r => entryR r) = true by rw [HN.out, HP.out, hrr]; rfl)
        clear hrr
        go_wp2_with fail
        go_roundw
        case measure => simp [intOf]; omega
        case rel => first | exact ⟨k + 1, hlt, by go_num, HF.out, HC2.out⟩ | ((repeat apply Exists.intro); exact ⟨⟨k + 1, hlt, by go_num, HF.out, HC2.out⟩, rfl⟩)
    · clear eg hC
      have hkn : ¬ (k : Int) < (n : Int) := by omega
      go_wp2_with fail
      go_ret
      have hp := HP.out
      rw [List.take_of_length_le (by have := HL.out.1; omega)] at hp
      exact ⟨⟨-1, rfl, by rw [hp]; rfl⟩, HC.out⟩
set_option maxHeartbeats 4000000 in
set_option maxRecDepth 100000 in
theorem entq_contains {R : Nat → Prop} {A : Option Addr} {n c : Nat} {xs : List (Entry)} {w : World} (hl : Ty.At entryK w R A n c xs) :
    Calls Try.prog 45 #[.slice A n c, .func (.func 81) #[] #[]] w fun e w' => e = .returned (.bool (!(xs.all (fun r => entryR r)))) ∧ Chg (fun _ => False) w w' := by
  have HL := hid hl
  clear hl
  go_enter Try.func45, Try.ntmps45
  go_wp2_with fail
  refine (entq_idx HL.out).mono ?_
  rintro e w1 ⟨⟨i, rfl, hi⟩, hc⟩
  have HI := hid hi
  have HC := hid hc
  clear hi hc
  go_wp2_with fail
  go_ret
  exact ⟨by rw [← HI.out]; rfl, HC.out⟩

def logR (lo hi : Int) (l : List Entry) : Bool := decide (lo ≤ (l.length : Int) ∧ (l.length : Int) ≤ hi) && l.all (fun e => entryR e)
set_option maxHeartbeats 4000000 in
set_option maxRecDepth 100000 in
theorem logged_any {R : Nat → Prop} {A : Option Addr} {n c : Nat} {xs : List Entry} {w : World} (hl : Ty.At entryK w R A n c xs) (lo hi : Int) :
    Calls Try.prog 67 #[.slice A n c, .int .i64 lo, .int .i64 hi] w fun e w' => e = .returned (.bool (logR lo hi xs)) ∧ Chg (fun _ => False) w w' := by
  have HL := hid hl
  have L1 := hid hl.1
  clear hl
  by_cases h1 : lo ≤ (n : Int)
  case neg =>
    have G := hid (show logR lo hi xs = false by unfold logR; rw [decide_eq_false (by have := L1.out; omega)]; rfl)
    go_enter Try.func67, Try.ntmps67
    go_wp2_with fail
    go_ret
    exact ⟨by rw [G.out]; rfl, Chg.refl _ _⟩
  by_cases h2 : (n : Int) ≤ hi
  case neg =>
    have G := hid (show logR lo hi xs = false by unfold logR; rw [decide_eq_false (by have := L1.out; omega)]; rfl)
    go_enter Try.func67, Try.ntmps67
    go_wp2_with fail
    go_ret
    exact ⟨by rw [G.out]; rfl, Chg.refl _ _⟩
  have G := hid (show logR lo hi xs = xs.all (fun e => entryR e) by unfold logR; rw [decide_eq_true (by have := L1.out; omega)]; rfl)
  go_enter Try.func67, Try.ntmps67
  go_wp2_with fail
  refine (entq_contains HL.out).mono ?_
  rintro e w1 ⟨rfl, h1⟩
  have H1 := hid h1
  clear h1
  go_wp2_with fail
  go_ret
  exact ⟨by rw [G.out]; simp, H1.out⟩

set_option maxHeartbeats 4000000 in
set_option maxRecDepth 100000 in
theorem refentries_any {R : Nat → Prop} {A : Option Addr} {n c : Nat} {xs : List Entry} {w : World} (hl : Ty.At entryK w R A n c xs) (hi : Int) :
    Calls Try.prog 50 #[.slice A n c, .int .i64 hi] w fun e w' => e = .returned (.bool (logR 0 hi xs)) ∧ Chg (fun _ => False) w w' := by
  have HL := hid hl
  have L1 := hid hl.1
  have hn2 : (n : Int) ≤ 9223372036854775807 := by have q1 := hl.2.1; have q2 := hl.2.2.1; simp [maxLen] at q2; omega
  clear hl
  by_cases h2 : (n : Int) ≤ hi
  case neg =>
    have G := hid (show logR 0 hi xs = false by unfold logR; rw [decide_eq_false (by have := L1.out; omega)]; rfl)
    have h3 : hi < (n : Int) := by omega
    go_enter Try.func50, Try.ntmps50
    go_wp2_with fail
    go_ret
    exact ⟨by rw [G.out]; rfl, Chg.refl _ _⟩
  have G := hid (show logR 0 hi xs = xs.all (fun e => entryR e) by unfold logR; rw [decide_eq_true (by have := L1.out; omega)]; rfl)
  have h3 : ¬ hi < (n : Int) := by omega
  go_enter Try.func50, Try.ntmps50
  go_wp2_with fail
  clear h2 h3
  go_loopw [5] (fun i wr => ∃ k : Nat, k ≤ n ∧ i = .int .i64 k ∧ (xs.take k).all (fun r => entryR r) = true ∧ Chg (fun _ => False) w wr) (fun i _ => n - (intOf i).toNat)
  case atStart => exact ⟨0, Nat.zero_le _, rfl, rfl, Chg.refl _ _⟩
  case round =>
    obtain ⟨k, hk, rfl, hp, hC⟩ := hrel
    have HP := hid hp
    have HC := hid hC
    clear hp
    by_cases hlt : k < n
    · obtain ⟨r, hr⟩ : ∃ r, xs[k]? = some r := ⟨_, List.getElem?_eq_getElem (by have := HL.out.1; omega)⟩
      obtain ⟨a, cs, ha, haR, hK, hcs⟩ := HL.out.get (by decide) hr
      obtain ⟨E1, m1, d1, E2, m2, d2, rfl, hrw⟩ := entry_open (id hK)
      have HRW := hid hrw
      clear hrw
      subst ha
      have hcs2 : ∀ j u, (entryCells r E1 m1 d1 E2 m2 d2)[j]? = some u → wr.cell? (a.add (k * 9 + j)) = some u := fun j u hj => hC.cell (hcs j u hj) (fun h => h)
      have x0 := elem_cell0 hcs2 _ rfl
      have x1 := elem_cell hcs2 0 _ rfl
      have x2 := elem_cell hcs2 1 _ rfl
      have x3 := elem_cell hcs2 2 _ rfl
      have x4 := elem_cell hcs2 3 _ rfl
      have x5 := elem_cell hcs2 4 _ rfl
      have x6 := elem_cell hcs2 5 _ rfl
      have x7 := elem_cell hcs2 6 _ rfl
      have x8 := elem_cell hcs2 7 _ rfl
      have HN := hid (entq_allk hr)
      have HX := hid (entq_alln (xs := xs) (k := k + 1))
      clear hcs hK hcs2 hr haR hC
      have hlt2 : (k : Int) < (n : Int) := by omega
      go_wp2_with fail
      refine (refentryright_any (e := r) (HRW.out.chg HC.out (fun _ _ h => h))).mono ?_
      rintro e w2 ⟨rfl, h2⟩
      have HC2 := hid (HC.out.trans h2 (fun _ h _ => h))
      clear h2 x0 x1 x2 x3 x4 x5 x6 x7 x8
      cases hrr : entryR r
      · have HF := hid (HX.out (by rw [HN.out, hrr, Bool.and_false]))
        clear hrr
        go_wp2_with fail
        go_ret
        exact ⟨by rw [G.out, HF.out]; rfl, HC2.out⟩
      · have HF := hid (show (xs.take (k + 1)).all (fun r => entryR r) = true by rw [HN.out, HP.out, hrr]; rfl)
        clear hrr
        go_wp2_with fail
        go_roundw
        case measure => simp [intOf]; omega
        case rel => first | exact ⟨k + 1, hlt, by go_num, HF.out, HC2.out⟩ | ((repeat apply Exists.intro); exact ⟨⟨k + 1, hlt, by go_num, HF.out, HC2.out⟩, rfl⟩)
    · clear hC
      have hkn : ¬ (k : Int) < (n : Int) := by omega
      go_wp2_with fail
      go_ret
      have hp := HP.out
      rw [List.take_of_length_le (by have := L1.out; omega)] at hp
      exact ⟨by rw [G.out, hp]; rfl, HC.out⟩
end Go.Proofs.Ytfpjickdkkhndaa.Pa


/- The contracts of Right at messages and records, the program's and the document's. -/

namespace Go.Proofs.Ytfpjickdkkhndaa.Pa

set_option linter.unusedVariables false

set_option linter.unusedSimpArgs false

open Go.RowKit Go.Proofs.Ytfpjickdkkhndaa.C

attribute [local go_sem] max2_int min2_int max_two min_two

def msgR (m : Msg) : Bool := inR 1 8 m.kind && numR 0 m.view && numR 0 m.normal && inR 0 6 m.src && inR 0 6 m.dst && inR 0 64 m.op && inR 0 64 m.commit && (if m.kind = 1 then logR 1 1 m.log else if m.kind = 5 ∨ m.kind = 6 ∨ m.kind = 8 then logR 0 64 m.log else decide (m.log.length = 0))
def recR (m : Rec) : Bool := inR 1 5 m.kind && numR 0 m.a && numR 0 m.b && (if m.kind = 2 then logR 1 1 m.log else decide (m.log.length = 0))
theorem logR_one (l : List Entry) : logR 1 1 l = (decide (l.length = 1) && logR 0 1 l) := by
  unfold logR
  by_cases h : l.length = 1
  · rw [h]; rfl
  · rw [decide_eq_false h, decide_eq_false (by omega)]; rfl
theorem numR_in {lo n hi : Int} (h1 : lo ≤ n) (h2 : n ≤ hi) : inR lo hi n = true := decide_eq_true ⟨h1, h2⟩
theorem numR_no1 {lo n hi : Int} (h1 : ¬ lo ≤ n) : inR lo hi n = false := decide_eq_false (fun h => h1 h.1)
theorem numR_no2 {lo n hi : Int} (h1 : ¬ n ≤ hi) : inR lo hi n = false := decide_eq_false (fun h => h1 h.2)

end Go.Proofs.Ytfpjickdkkhndaa.Pa


/- The contract of Right at messages, the document's. -/

namespace Go.Proofs.Ytfpjickdkkhndaa.Pa

set_option linter.unusedVariables false

set_option linter.unusedSimpArgs false

open Go.RowKit Go.Proofs.Ytfpjickdkkhndaa.C

attribute [local go_sem] max2_int min2_int max_two min_two

end Go.Proofs.Ytfpjickdkkhndaa.Pa


/- The contracts of Right at records, the program's and the document's. -/

namespace Go.Proofs.Ytfpjickdkkhndaa.Pa

set_option linter.unusedVariables false

set_option linter.unusedSimpArgs false

open Go.RowKit Go.Proofs.Ytfpjickdkkhndaa.C

attribute [local go_sem] max2_int min2_int max_two min_two

set_option maxHeartbeats 4000000 in
set_option maxRecDepth 100000 in
theorem recright_any {R : Nat → Prop} {m : Rec} {A : Option Addr} {n c : Nat} {w : World} (hl : Ty.At entryK w R A n c m.log) :
    Calls Try.prog 44 #[.agg (recCells m A n c).toArray] w fun e' w' => e' = .returned (.bool (recR m)) ∧ Chg (fun _ => False) w w' := by
  show Calls Try.prog _ #[.agg #[.int .i64 m.kind, .int .i64 m.a, .int .i64 m.b, .slice A n c]] w _
  obtain ⟨w0, hw0⟩ : ∃ w0, w0 = w.alloc (.cells #[.int .i64 m.kind, .int .i64 m.a, .int .i64 m.b, .slice A n c] 62) := ⟨_, rfl⟩
  have CB := hid (show Chg (fun _ => False) w w0 by rw [hw0]; exact (Chg.refl _ w).alloc _)
  have B1 := hid (show w0.heap[w.heap.size]? = some (.cells #[.int .i64 m.kind, .int .i64 m.a, .int .i64 m.b, .slice A n c] 62 (0, 0)) by rw [hw0]; exact blk_new w _)
  have HQ := hid (hl.chg CB.out (fun _ _ h => h))
  have L1 := hid hl.1
  have hm1 : (n : Int) ≤ 9223372036854775807 := by have q1 := hl.2.1; have q2 := hl.2.2.1; simp [maxLen] at q2; omega
  clear hl
  by_cases aa : 1 ≤ m.kind
  case neg =>
    have G := hid (show recR m = false by simp [recR, numR_no1 (hi := 5) aa])
    go_enter Try.func44, Try.ntmps44
    go_wp2_with fail
    rw [← hw0]
    go_ret
    exact ⟨by rw [G.out]; rfl, CB.out⟩
  by_cases ab : m.kind ≤ 5
  case neg =>
    have G := hid (show recR m = false by simp [recR, numR_no2 (lo := 1) ab])
    go_enter Try.func44, Try.ntmps44
    go_wp2_with fail
    rw [← hw0]
    go_ret
    exact ⟨by rw [G.out]; rfl, CB.out⟩
  have Ia := hid (numR_in aa ab)
  go_enter Try.func44, Try.ntmps44
  go_wp2_with fail
  rw [← hw0]
  clear hw0
  have x0 : w0.cell? ⟨w.heap.size, 0, none⟩ = _ := cellAt B1.out 0
  have x1 : w0.cell? ⟨w.heap.size, 1, none⟩ = _ := cellAt B1.out 1
  have x2 : w0.cell? ⟨w.heap.size, 2, none⟩ = _ := cellAt B1.out 2
  have x3 : w0.cell? ⟨w.heap.size, 3, none⟩ = _ := cellAt B1.out 3
  simp only [List.getElem?_toArray, List.getElem?_cons_zero, List.getElem?_cons_succ] at x0 x1 x2 x3
  refine (number_any m.a 0 _).mono ?_
  rintro e' w1 ⟨rfl, rfl⟩
  cases b : numR 0 m.a
  · have G := hid (show recR m = false by simp [recR, b])
    clear b
    go_wp2_with fail
    go_ret
    exact ⟨by rw [G.out]; rfl, CB.out⟩
  have Ib := hid b
  clear b
  go_wp2_with fail
  refine (number_any m.b 0 _).mono ?_
  rintro e' w1 ⟨rfl, rfl⟩
  cases c' : numR 0 m.b
  · have G := hid (show recR m = false by simp [recR, c'])
    clear c'
    go_wp2_with fail
    go_ret
    exact ⟨by rw [G.out]; rfl, CB.out⟩
  have Ic' := hid c'
  clear c'
  have GE := hid (show recR m = (if m.kind = 2 then logR 1 1 m.log else decide (m.log.length = 0)) by unfold recR; rw [Ia.out, Ib.out, Ic'.out]; rfl)
  by_cases k1 : m.kind = 2
  · have G := hid (show recR m = logR 1 1 m.log by rw [GE.out, if_pos k1])
    clear GE
    go_wp2_with fail
    refine (logged_any HQ.out 1 1).mono ?_
    rintro e' w2 ⟨rfl, h2⟩
    have H2 := hid (CB.out.trans h2 (fun _ h _ => h))
    clear h2
    go_wp2_with fail
    go_ret
    exact ⟨by rw [G.out]; rfl, H2.out⟩
  have G := hid (show recR m = decide (m.log.length = 0) by rw [GE.out, if_neg k1])
  clear GE
  by_cases hz : n = 0
  · subst hz
    go_wp2_with fail
    go_ret
    exact ⟨by rw [G.out, decide_eq_true L1.out.symm]; rfl, CB.out⟩
  · have hz2 : ¬ (n : Int) = 0 := by omega
    go_wp2_with fail
    go_ret
    have e0 := decide_eq_false (show ¬ m.log.length = 0 by rw [← L1.out]; exact hz)
    exact ⟨by rw [G.out, e0]; simp [hz], CB.out⟩

set_option maxHeartbeats 4000000 in
set_option maxRecDepth 100000 in
theorem refrecright_any {R : Nat → Prop} {m : Rec} {A : Option Addr} {n c : Nat} {w : World} (hl : Ty.At entryK w R A n c m.log) :
    Calls Try.prog 28 #[.agg (recCells m A n c).toArray] w fun e' w' => e' = .returned (.bool (recR m)) ∧ Chg (fun _ => False) w w' := by
  show Calls Try.prog _ #[.agg #[.int .i64 m.kind, .int .i64 m.a, .int .i64 m.b, .slice A n c]] w _
  obtain ⟨w0, hw0⟩ : ∃ w0, w0 = w.alloc (.cells #[.int .i64 m.kind, .int .i64 m.a, .int .i64 m.b, .slice A n c] 67) := ⟨_, rfl⟩
  have CB := hid (show Chg (fun _ => False) w w0 by rw [hw0]; exact (Chg.refl _ w).alloc _)
  have B1 := hid (show w0.heap[w.heap.size]? = some (.cells #[.int .i64 m.kind, .int .i64 m.a, .int .i64 m.b, .slice A n c] 67 (0, 0)) by rw [hw0]; exact blk_new w _)
  have HQ := hid (hl.chg CB.out (fun _ _ h => h))
  have L1 := hid hl.1
  have hm1 : (n : Int) ≤ 9223372036854775807 := by have q1 := hl.2.1; have q2 := hl.2.2.1; simp [maxLen] at q2; omega
  clear hl
  go_enter Try.func28, Try.ntmps28
  go_wp2_with fail
  rw [← hw0]
  clear hw0
  have x0 : w0.cell? ⟨w.heap.size, 0, none⟩ = _ := cellAt B1.out 0
  have x1 : w0.cell? ⟨w.heap.size, 1, none⟩ = _ := cellAt B1.out 1
  have x2 : w0.cell? ⟨w.heap.size, 2, none⟩ = _ := cellAt B1.out 2
  have x3 : w0.cell? ⟨w.heap.size, 3, none⟩ = _ := cellAt B1.out 3
  simp only [List.getElem?_toArray, List.getElem?_cons_zero, List.getElem?_cons_succ] at x0 x1 x2 x3
  refine (within_any m.kind 1 5 _).mono ?_
  rintro e' w1 ⟨rfl, rfl⟩
  cases a : inR 1 5 m.kind
  · have G := hid (show recR m = false by simp [recR, a])
    clear a
    go_wp2_with fail
    go_ret
    exact ⟨by rw [G.out]; rfl, CB.out⟩
  have Ia := hid a
  clear a
  go_wp2_with fail
  refine (within_any m.a 0 1099511627776 _).mono ?_
  rintro e' w1 ⟨rfl, rfl⟩
  cases b : inR 0 1099511627776 m.a
  · have G := hid (show recR m = false by simp [recR, b, show numR 0 m.a = false from b])
    clear b
    go_wp2_with fail
    go_ret
    exact ⟨by rw [G.out]; rfl, CB.out⟩
  have Ib := hid b
  clear b
  go_wp2_with fail
  refine (within_any m.b 0 1099511627776 _).mono ?_
  rintro e' w1 ⟨rfl, rfl⟩
  cases c' : inR 0 1099511627776 m.b
  · have G := hid (show recR m = false by simp [recR, c', show numR 0 m.b = false from c'])
    clear c'
    go_wp2_with fail
    go_ret
    exact ⟨by rw [G.out]; rfl, CB.out⟩
  have Ic' := hid c'
  clear c'
  have GE := hid (show recR m = (if m.kind = 2 then logR 1 1 m.log else decide (m.log.length = 0)) by unfold recR; rw [Ia.out, show numR 0 m.a = true from Ib.out, show numR 0 m.b = true from Ic'.out]; rfl)
  by_cases k1 : m.kind = 2
  · have G := hid (show recR m = logR 1 1 m.log by rw [GE.out, if_pos k1])
    clear GE
    by_cases hz : n = 1
    · subst hz
      have G2 := hid (show logR 1 1 m.log = logR 0 1 m.log by rw [logR_one, decide_eq_true L1.out.symm]; rfl)
      go_wp2_with fail
      refine (refentries_any HQ.out 1).mono ?_
      rintro e' w2 ⟨rfl, h2⟩
      have H2 := hid (CB.out.trans h2 (fun _ h _ => h))
      clear h2
      go_wp2_with fail
      go_ret
      exact ⟨by rw [G.out, G2.out]; simp, H2.out⟩
    · have hz2 : ¬ (n : Int) = 1 := by omega
      have G2 := hid (show logR 1 1 m.log = false by rw [logR_one, decide_eq_false (by rw [← L1.out]; exact hz)]; rfl)
      go_wp2_with fail
      go_ret
      exact ⟨by rw [G.out, G2.out]; rfl, CB.out⟩
  have G := hid (show recR m = decide (m.log.length = 0) by rw [GE.out, if_neg k1])
  clear GE
  by_cases hz : n = 0
  · subst hz
    go_wp2_with fail
    go_ret
    exact ⟨by rw [G.out, decide_eq_true L1.out.symm]; rfl, CB.out⟩
  · have hz2 : ¬ (n : Int) = 0 := by omega
    go_wp2_with fail
    go_ret
    have e0 := decide_eq_false (show ¬ m.log.length = 0 by rw [← L1.out]; exact hz)
    exact ⟨by rw [G.out, e0]; simp [hz], CB.out⟩
end Go.Proofs.Ytfpjickdkkhndaa.Pa


/- The contract of the document's num that writes. -/

namespace Go.Proofs.Ytfpjickdkkhndaa.Pa

set_option linter.unusedVariables false

set_option linter.unusedSimpArgs false

open Go.RowKit Go.Proofs.Ytfpjickdkkhndaa.C

attribute [local go_sem] max2_int min2_int max_two min_two

/-- A slice of one's own that holds the bytes x; its memory lies in S. -/
structure Byt (w : World) (S : Nat → Prop) (v : Value) (x : List UInt8) : Prop where
  row : w.ownsRow 0 5 1 v x.length (u8s x)
  rowS : ∀ k, v.ownBlock = some k → S k
theorem Byt.nil (w : World) (S : Nat → Prop) : Byt w S (.slice none 0 0) [] := ⟨own_nil _ _ _, fun k hk => by simp [Value.ownBlock] at hk⟩
theorem Byt.chg {w w' : World} {S M : Nat → Prop} {v : Value} {x : List UInt8} (h : Byt w S v x) (hc : Chg M w w') (hd : ∀ k, S k → ¬ M k) : Byt w' S v x := ⟨hc.own h.row (fun k hk => hd k (h.rowS k hk)), h.rowS⟩
theorem Byt.mono {w : World} {S S' : Nat → Prop} {v : Value} {x : List UInt8} (h : Byt w S v x) (hS : ∀ k, k < w.heap.size → S k → S' k) : Byt w S' v x := ⟨h.row, fun k hk => hS k (own_lt h.row k hk) (h.rowS k hk)⟩
theorem Byt.bound {w : World} {S : Nat → Prop} {v : Value} {x : List UInt8} (h : Byt w S v x) : Byt w (fun k => S k ∧ k < w.heap.size) v x := h.mono (fun _ hl h => ⟨h, hl⟩)
theorem Byt.form {w : World} {S : Nat → Prop} {v : Value} {x : List UInt8} (h : Byt w S v x) : ∃ A c, v = .slice A x.length c := by
  obtain ⟨A, c, hv, _⟩ := own_sees h.row
  exact ⟨A, c, hv⟩
/-- More was written. -/
structure ByTo (S : Nat → Prop) (x : List UInt8) (w w' : World) (v : Value) : Prop where
  byt : Byt w' (fun k => S k ∨ w.heap.size ≤ k) v x
  chg : Chg S w w'
theorem ByTo.refl {S : Nat → Prop} {x : List UInt8} {w : World} {v : Value} (h : Byt w S v x) : ByTo S x w w v := ⟨h.mono (fun _ _ h => .inl h), Chg.refl _ _⟩
theorem ByTo.trans {S : Nat → Prop} {x y : List UInt8} {w w1 w2 : World} {v v' : Value} (h : ByTo S x w w1 v) (k : ByTo (fun k => S k ∨ w.heap.size ≤ k) y w1 w2 v') : ByTo S y w w2 v' := by
  refine ⟨k.byt.mono (fun j _ hj => ?_), h.chg.trans k.chg (fun j hj hlt => ?_)⟩
  · rcases hj with (hj | hj) | hj
    · exact .inl hj
    · exact .inr hj
    · exact .inr (Nat.le_trans h.chg.size hj)
  · rcases hj with hj | hj
    · exact hj
    · omega
theorem ByTo.pre {S S0 : Nat → Prop} {y : List UInt8} {w w1 w2 : World} {v : Value} (h : Chg (fun _ => False) w w1) (k : ByTo S0 y w1 w2 v) (hS : ∀ k, S0 k → S k ∨ w.heap.size ≤ k) : ByTo S y w w2 v := by
  refine ⟨k.byt.mono (fun j _ hj => ?_), (h.mono (fun _ h _ => h.elim)).trans k.chg (fun j hj hlt => ?_)⟩
  · rcases hj with hj | hj
    · exact hS j hj
    · exact .inr (Nat.le_trans h.size hj)
  · rcases hS j hj with hj | hj
    · exact hj
    · omega
theorem ByTo.drewN {S : Nat → Prop} {y : List UInt8} {w w' : World} {v : Value} (h : ByTo S y w w' v) (q : Nat) : ByTo S y w (w'.drewN q) v := ⟨h.byt.chg ((Chg.refl (fun _ => False) w').drewN q) (fun _ _ h => h), h.chg.drewN q⟩
theorem ByTo.drew {S : Nat → Prop} {y : List UInt8} {w w' : World} {v : Value} (h : ByTo S y w w' v) : ByTo S y w w'.drew v := ⟨h.byt.chg ((Chg.refl (fun _ => False) w').drew) (fun _ _ h => h), h.chg.drew⟩

/-- Something was appended. -/
theorem ByTo.app {S : Nat → Prop} {x y : List UInt8} {w w1 w2 : World} {v v' : Value} (h : ByTo S x w w1 v) (h1 : w2.ownsRow 0 5 1 v' y.length (u8s y)) (h2 : Chg (fun k => v.ownBlock = some k) w1 w2) (h3 : ∀ k, v'.ownBlock = some k → v.ownBlock = some k ∨ w1.heap.size ≤ k) : ByTo S y w w2 v' := by
  refine ⟨⟨h1, fun k hk => ?_⟩, h.chg.trans h2 (fun k hk hl => ?_)⟩
  · rcases h3 k hk with q | q
    · exact h.byt.rowS k q
    · exact .inr (Nat.le_trans h.chg.size q)
  · rcases h.byt.rowS k hk with q | q
    · exact q
    · omega
/-- The last j of the six bytes are written. -/
def sixAt (m j : Nat) : List UInt8 := List.replicate (6 - j) 0 ++ (six m).drop (6 - j)
theorem sixAt_len (m j : Nat) (h : j ≤ 6) : (sixAt m j).length = 6 := by
  unfold sixAt
  rw [List.length_append, List.length_replicate, List.length_drop, six_len]
  omega
theorem sixAt_set {m j : Nat} (h : j < 6) : (u8s (sixAt m j)).toArray.setIfInBounds (5 - j) (.int .u8 (((UInt8.ofNat (m / 2 ^ (8 * j))).toNat : Nat) : Int)) = (u8s (sixAt m (j + 1))).toArray := by
  have : j = 0 ∨ j = 1 ∨ j = 2 ∨ j = 3 ∨ j = 4 ∨ j = 5 := by omega
  rcases this with rfl | rfl | rfl | rfl | rfl | rfl <;> simp [sixAt, six, u8s, List.replicate]
theorem sixAt_done (m : Nat) : sixAt m 6 = six m := by simp [sixAt]

end Go.Proofs.Ytfpjickdkkhndaa.Pa


/- The contracts of the document's entry and log that write. -/

namespace Go.Proofs.Ytfpjickdkkhndaa.Pa

set_option linter.unusedVariables false

set_option linter.unusedSimpArgs false

open Go.RowKit Go.Proofs.Ytfpjickdkkhndaa.C

attribute [local go_sem] max2_int min2_int max_two min_two

end Go.Proofs.Ytfpjickdkkhndaa.Pa


/- The contracts of the document's log that writes, and of Bytes. -/

namespace Go.Proofs.Ytfpjickdkkhndaa.Pa

set_option linter.unusedVariables false

set_option linter.unusedSimpArgs false

open Go.RowKit Go.Proofs.Ytfpjickdkkhndaa.C

attribute [local go_sem] max2_int min2_int max_two min_two

end Go.Proofs.Ytfpjickdkkhndaa.Pa


/- The contracts of slices.Equal at rules and numbers. -/

namespace Go.Proofs.Ytfpjickdkkhndaa.Pa

set_option linter.unusedVariables false

set_option linter.unusedSimpArgs false

open Go.RowKit Go.Proofs.Ytfpjickdkkhndaa.C

attribute [local go_sem] max2_int min2_int max_two min_two

theorem bytes_eq {s t : ByteArray} : s.toList = t.toList ↔ s = t := by
  constructor
  · intro h
    rw [ByteArray.toList_eq, ByteArray.toList_eq] at h
    cases s
    cases t
    simp only [Array.toList_inj] at h
    rw [h]
  · rintro rfl
    rfl
theorem rule_ext {x y : Rule} : x = y ↔ x.id = y.id ∧ x.pri = y.pri ∧ x.act = y.act ∧ x.scope = y.scope ∧ x.pat = y.pat := by
  cases x
  cases y
  simp
theorem rule_neq (x y : Rule) (w : World) : (binOp .neq 54 (.agg #[.int .i64 x.id, .int .i64 x.pri, .int .i64 x.act, .int .i64 x.scope, .string x.pat]) (.agg #[.int .i64 y.id, .int .i64 y.pri, .int .i64 y.act, .int .i64 y.scope, .string y.pat])).run Try.prog w = .ok (.bool (!(decide (x = y)))) w := by
  simp [go_sem, rule_ext, bytes_eq]
  by_cases h1 : x.id = y.id <;> by_cases h2 : x.pri = y.pri <;> by_cases h3 : x.act = y.act <;> by_cases h4 : x.scope = y.scope <;> by_cases h5 : x.pat = y.pat <;> simp [h1, h2, h3, h4, h5]
theorem refrule_neq (x y : Rule) (w : World) : (binOp .neq 127 (.agg #[.int .i64 x.id, .int .i64 x.pri, .int .i64 x.act, .int .i64 x.scope, .string x.pat]) (.agg #[.int .i64 y.id, .int .i64 y.pri, .int .i64 y.act, .int .i64 y.scope, .string y.pat])).run Try.prog w = .ok (.bool (!(decide (x = y)))) w := by
  simp [go_sem, rule_ext, bytes_eq]
  by_cases h1 : x.id = y.id <;> by_cases h2 : x.pri = y.pri <;> by_cases h3 : x.act = y.act <;> by_cases h4 : x.scope = y.scope <;> by_cases h5 : x.pat = y.pat <;> simp [h1, h2, h3, h4, h5]

set_option maxHeartbeats 4000000 in
set_option maxRecDepth 100000 in
theorem ruleseq_any {R R' : Nat → Prop} {xs ys : List (Rule)} {A A' : Option Addr} {n c n' c' : Nat} {w : World} (h : Ty.At ruleK w R A n c xs) (h' : Ty.At ruleK w R' A' n' c' ys) :
    Calls Try.prog 93 #[.slice A n c, .slice A' n' c'] w fun e w' => e = .returned (.bool (decide (xs = ys))) ∧ Chg (fun _ => False) w w' := by
  have HX := hid h
  have HY := hid h'
  have LX := hid h.1
  have LY := hid h'.1
  have hn : (n : Int) ≤ 9223372036854775807 := by have q1 := h.2.1; have q2 := h.2.2.1; simp [maxLen] at q2; omega
  clear h h'
  by_cases hnm : n = n'
  case neg =>
    have HN := hid (show ¬ xs = ys from fun e => hnm (by rw [LX.out, LY.out, e]))
    have hnm2 : ¬ (n : Int) = (n' : Int) := by omega
    clear hnm
    go_enter Try.func93, Try.ntmps93
    go_wp2_with fail
    go_ret
    exact ⟨by rw [decide_eq_false HN.out]; rfl, Chg.refl _ _⟩
  subst hnm
  go_enter Try.func93, Try.ntmps93
  go_wp2_with fail
  go_loopw [13] (fun i wr => ∃ k : Nat, k ≤ n ∧ i = .int .i64 k ∧ xs.take k = ys.take k ∧ Chg (fun _ => False) w wr) (fun i _ => n - (intOf i).toNat)
  case atStart => exact ⟨0, Nat.zero_le _, rfl, rfl, Chg.refl _ _⟩
  case round =>
    obtain ⟨k, hk, rfl, he, hC⟩ := hrel
    have HE := hid he
    have HC := hid hC
    clear he
    by_cases hlt : k < n
    · obtain ⟨x, hx⟩ : ∃ x, xs[k]? = some x := ⟨_, List.getElem?_eq_getElem (by have := LX.out; omega)⟩
      obtain ⟨y, hy⟩ : ∃ y, ys[k]? = some y := ⟨_, List.getElem?_eq_getElem (by have := LY.out; omega)⟩
      obtain ⟨a, cs, ha, haR, hK, hcs⟩ := HX.out.get (by decide) hx
      obtain ⟨b, ds, hb, hbR, hK', hds⟩ := HY.out.get (by decide) hy
      obtain ⟨rfl, hrw⟩ := rule_open hK
      obtain ⟨rfl, hrw'⟩ := rule_open hK'
      clear hrw hrw'
      subst ha hb
      have hcs2 : ∀ j u, (ruleCells x)[j]? = some u → wr.cell? (a.add (k * 5 + j)) = some u := fun j u hj => hC.cell (hcs j u hj) (fun h => h)
      have hds2 : ∀ j u, (ruleCells y)[j]? = some u → wr.cell? (b.add (k * 5 + j)) = some u := fun j u hj => hC.cell (hds j u hj) (fun h => h)
      have x0 := elem_cell0 hcs2 _ rfl
      have y0 := elem_cell0 hds2 _ rfl
      have x1 := elem_cell hcs2 0 _ rfl
      have y1 := elem_cell hds2 0 _ rfl
      have x2 := elem_cell hcs2 1 _ rfl
      have y2 := elem_cell hds2 1 _ rfl
      have x3 := elem_cell hcs2 2 _ rfl
      have y3 := elem_cell hds2 2 _ rfl
      have x4 := elem_cell hcs2 3 _ rfl
      have y4 := elem_cell hds2 3 _ rfl
      have TX := hid (show xs.take (k + 1) = xs.take k ++ [x] by rw [List.take_add_one, hx]; rfl)
      have TY := hid (show ys.take (k + 1) = ys.take k ++ [y] by rw [List.take_add_one, hy]; rfl)
      have NE := hid (show x ≠ y → xs ≠ ys from fun h e => h (by subst e; rw [hx] at hy; injection hy))
      have e1 := fun w => rule_neq x y w
      clear hcs hds hK hK' hcs2 hds2 hx hy haR hbR hC
      have hlt2 : (k : Int) < (n : Int) := by omega
      go_wp2_with fail
      go_quiet (fail)
      clear x0 y0 x1 x2 x3 x4 y1 y2 y3 y4 e1
      by_cases hxy : x = y
      · have HN := hid (show xs.take (k + 1) = ys.take (k + 1) by rw [TX.out, TY.out, HE.out, hxy])
        have C2 := hid (HC.out.drewN nq)
        have HD := hid (trivial)
        rw [decide_eq_true hxy]
        clear hxy
        go_wp2_with fail
        go_roundw
        case measure => simp [intOf]; omega
        case rel => first | exact ⟨k + 1, hlt, by go_num, HN.out, C2.out⟩ | ((repeat apply Exists.intro); exact ⟨⟨k + 1, hlt, by go_num, HN.out, C2.out⟩, rfl⟩)
      · have HN := hid (NE.out hxy)
        have C2 := hid (HC.out.drewN nq)
        rw [decide_eq_false hxy]
        clear hxy
        go_wp2_with fail
        go_ret
        exact ⟨by rw [decide_eq_false HN.out]; rfl, C2.out⟩
    · have hkn : ¬ (k : Int) < (n : Int) := by omega
      clear hC
      go_wp2_with fail
      go_ret
      have e := HE.out
      rw [List.take_of_length_le (by have := LX.out; omega), List.take_of_length_le (by have := LY.out; omega)] at e
      exact ⟨by rw [decide_eq_true e]; rfl, HC.out⟩

set_option maxHeartbeats 4000000 in
set_option maxRecDepth 100000 in
theorem numseq_any {R R' : Nat → Prop} {xs ys : List (Int)} {A A' : Option Addr} {n c n' c' : Nat} {w : World} (h : Ty.At (Ty.int .i64) w R A n c xs) (h' : Ty.At (Ty.int .i64) w R' A' n' c' ys) :
    Calls Try.prog 94 #[.slice A n c, .slice A' n' c'] w fun e w' => e = .returned (.bool (decide (xs = ys))) ∧ Chg (fun _ => False) w w' := by
  have HX := hid h
  have HY := hid h'
  have LX := hid h.1
  have LY := hid h'.1
  have hn : (n : Int) ≤ 9223372036854775807 := by have q1 := h.2.1; have q2 := h.2.2.1; simp [maxLen] at q2; omega
  clear h h'
  by_cases hnm : n = n'
  case neg =>
    have HN := hid (show ¬ xs = ys from fun e => hnm (by rw [LX.out, LY.out, e]))
    have hnm2 : ¬ (n : Int) = (n' : Int) := by omega
    clear hnm
    go_enter Try.func94, Try.ntmps94
    go_wp2_with fail
    go_ret
    exact ⟨by rw [decide_eq_false HN.out]; rfl, Chg.refl _ _⟩
  subst hnm
  go_enter Try.func94, Try.ntmps94
  go_wp2_with fail
  go_loopw [13] (fun i wr => ∃ k : Nat, k ≤ n ∧ i = .int .i64 k ∧ xs.take k = ys.take k ∧ Chg (fun _ => False) w wr) (fun i _ => n - (intOf i).toNat)
  case atStart => exact ⟨0, Nat.zero_le _, rfl, rfl, Chg.refl _ _⟩
  case round =>
    obtain ⟨k, hk, rfl, he, hC⟩ := hrel
    have HE := hid he
    have HC := hid hC
    clear he
    by_cases hlt : k < n
    · obtain ⟨x, hx⟩ : ∃ x, xs[k]? = some x := ⟨_, List.getElem?_eq_getElem (by have := LX.out; omega)⟩
      obtain ⟨y, hy⟩ : ∃ y, ys[k]? = some y := ⟨_, List.getElem?_eq_getElem (by have := LY.out; omega)⟩
      obtain ⟨a, cs, ha, haR, hK, hcs⟩ := HX.out.get (by decide) hx
      obtain ⟨b, ds, hb, hbR, hK', hds⟩ := HY.out.get (by decide) hy
      obtain ⟨rfl, hrw⟩ := (id hK)
      obtain ⟨rfl, hrw'⟩ := (id hK')
      clear hrw hrw'
      subst ha hb
      have hcs2 : ∀ j u, ([Value.int .i64 x])[j]? = some u → wr.cell? (a.add (k * 1 + j)) = some u := fun j u hj => hC.cell (hcs j u hj) (fun h => h)
      have hds2 : ∀ j u, ([Value.int .i64 y])[j]? = some u → wr.cell? (b.add (k * 1 + j)) = some u := fun j u hj => hC.cell (hds j u hj) (fun h => h)
      have x0 := elem_cell0 hcs2 _ rfl
      have y0 := elem_cell0 hds2 _ rfl
      rw [Nat.mul_one] at x0 y0
      have TX := hid (show xs.take (k + 1) = xs.take k ++ [x] by rw [List.take_add_one, hx]; rfl)
      have TY := hid (show ys.take (k + 1) = ys.take k ++ [y] by rw [List.take_add_one, hy]; rfl)
      have NE := hid (show x ≠ y → xs ≠ ys from fun h e => h (by subst e; rw [hx] at hy; injection hy))

      clear hcs hds hK hK' hcs2 hds2 hx hy haR hbR hC
      have hlt2 : (k : Int) < (n : Int) := by omega
      go_wp2_with fail
      go_quiet (fail)
      clear x0 y0
      by_cases hxy : x = y
      · have HN := hid (show xs.take (k + 1) = ys.take (k + 1) by rw [TX.out, TY.out, HE.out, hxy])
        have C2 := hid (HC.out.drewN nq)
        have HD := hid (trivial)
        obtain rfl := hxy; have hxy := trivial; have hb : (x != x) = false := by simp
        clear hxy
        go_wp2_with fail
        go_roundw
        case measure => simp [intOf]; omega
        case rel => first | exact ⟨k + 1, hlt, by go_num, HN.out, C2.out⟩ | ((repeat apply Exists.intro); exact ⟨⟨k + 1, hlt, by go_num, HN.out, C2.out⟩, rfl⟩)
      · have HN := hid (NE.out hxy)
        have C2 := hid (HC.out.drewN nq)
        have hb : (x != y) = true := by simpa using hxy
        clear hxy
        go_wp2_with fail
        go_ret
        exact ⟨by rw [decide_eq_false HN.out]; rfl, C2.out⟩
    · have hkn : ¬ (k : Int) < (n : Int) := by omega
      clear hC
      go_wp2_with fail
      go_ret
      have e := HE.out
      rw [List.take_of_length_le (by have := LX.out; omega), List.take_of_length_le (by have := LY.out; omega)] at e
      exact ⟨by rw [decide_eq_true e]; rfl, HC.out⟩
end Go.Proofs.Ytfpjickdkkhndaa.Pa


/- The contracts of the program's same and Same. -/

namespace Go.Proofs.Ytfpjickdkkhndaa.Pa

set_option linter.unusedVariables false

set_option linter.unusedSimpArgs false

open Go.RowKit Go.Proofs.Ytfpjickdkkhndaa.C

attribute [local go_sem] max2_int min2_int max_two min_two

theorem entry_ext {x y : Entry} : x = y ↔ x.view = y.view ∧ x.client = y.client ∧ x.request = y.request ∧ x.dflt = y.dflt ∧ x.closed = y.closed ∧ x.fuel = y.fuel ∧ x.stack = y.stack ∧ x.put = y.put ∧ x.drop = y.drop := by
  cases x
  cases y
  simp
theorem four_blk (w : World) (a b c d : Obj) : (((((w.alloc a).alloc b).alloc c).alloc d).drew.heap[w.heap.size]? = some a ∧ ((((w.alloc a).alloc b).alloc c).alloc d).drew.heap[w.heap.size + 1]? = some b ∧ ((((w.alloc a).alloc b).alloc c).alloc d).drew.heap[w.heap.size + 1 + 1]? = some c ∧ ((((w.alloc a).alloc b).alloc c).alloc d).drew.heap[w.heap.size + 1 + 1 + 1]? = some d) := by
  have h1 := blk_new w a
  have h2 := blk_new (w.alloc a) b
  have h3 := blk_new ((w.alloc a).alloc b) c
  have h4 := blk_new (((w.alloc a).alloc b).alloc c) d
  have s1 : (w.alloc a).heap.size = w.heap.size + 1 := by simp
  have s2 : ((w.alloc a).alloc b).heap.size = w.heap.size + 1 + 1 := by simp
  have s3 : (((w.alloc a).alloc b).alloc c).heap.size = w.heap.size + 1 + 1 + 1 := by simp
  rw [s1] at h2
  rw [s2] at h3
  rw [s3] at h4
  exact ⟨blk_alloc (blk_alloc (blk_alloc h1 _) _) _, blk_alloc (blk_alloc h2 _) _, blk_alloc h3 _, h4⟩
set_option maxHeartbeats 4000000 in
set_option maxRecDepth 100000 in
theorem same_any {R R' : Nat → Prop} {e d : Entry} {A1 : Option Addr} {n1 c1 : Nat} {A2 : Option Addr} {n2 c2 : Nat} {B1 : Option Addr} {m1 d1 : Nat} {B2 : Option Addr} {m2 d2 : Nat} {w : World} (he : EntryAt w R e A1 n1 c1 A2 n2 c2) (hd : EntryAt w R' d B1 m1 d1 B2 m2 d2) :
    Calls Try.prog 90 #[.agg (entryCells e A1 n1 c1 A2 n2 c2).toArray, .agg (entryCells d B1 m1 d1 B2 m2 d2).toArray] w fun e' w' => e' = .returned (.bool (decide (e = d))) ∧ Chg (fun _ => False) w w' := by
  show Calls Try.prog _ #[.agg #[.int .i64 e.view, .int .i64 e.client, .int .i64 e.request, .int .i64 e.dflt, .int .i64 e.closed, .int .i64 e.fuel, .int .i64 e.stack, .slice A1 n1 c1, .slice A2 n2 c2], .agg #[.int .i64 d.view, .int .i64 d.client, .int .i64 d.request, .int .i64 d.dflt, .int .i64 d.closed, .int .i64 d.fuel, .int .i64 d.stack, .slice B1 m1 d1, .slice B2 m2 d2]] w _
  have HE := hid he
  have HD := hid hd
  clear he hd
  go_enter Try.func90, Try.ntmps90
  go_wp2_with fail
  go_region
  · obtain ⟨W, hW⟩ : ∃ W, W = ((((w.alloc (.cells #[.int .i64 e.view, .int .i64 e.client, .int .i64 e.request, .int .i64 e.dflt, .int .i64 e.closed, .int .i64 e.fuel, .int .i64 e.stack, .slice A1 n1 c1, .slice A2 n2 c2] 52)).alloc (.cells #[.int .i64 d.view, .int .i64 d.client, .int .i64 d.request, .int .i64 d.dflt, .int .i64 d.closed, .int .i64 d.fuel, .int .i64 d.stack, .slice B1 m1 d1, .slice B2 m2 d2] 52)).alloc (.cells #[.int .i64 e.dflt, .int .i64 e.closed, .int .i64 e.fuel, .int .i64 e.stack, .slice A1 n1 c1, .slice A2 n2 c2] 50)).alloc (.cells #[.int .i64 d.dflt, .int .i64 d.closed, .int .i64 d.fuel, .int .i64 d.stack, .slice B1 m1 d1, .slice B2 m2 d2] 50)).drew := ⟨_, rfl⟩
    have CB := hid (show Chg (fun _ => False) w W by rw [hW]; exact (((((Chg.refl (fun _ => False) w).alloc _).alloc _).alloc _).alloc _).drew)
    obtain ⟨k1, k2, k3, k4⟩ := four_blk w (.cells #[.int .i64 e.view, .int .i64 e.client, .int .i64 e.request, .int .i64 e.dflt, .int .i64 e.closed, .int .i64 e.fuel, .int .i64 e.stack, .slice A1 n1 c1, .slice A2 n2 c2] 52) (.cells #[.int .i64 d.view, .int .i64 d.client, .int .i64 d.request, .int .i64 d.dflt, .int .i64 d.closed, .int .i64 d.fuel, .int .i64 d.stack, .slice B1 m1 d1, .slice B2 m2 d2] 52) (.cells #[.int .i64 e.dflt, .int .i64 e.closed, .int .i64 e.fuel, .int .i64 e.stack, .slice A1 n1 c1, .slice A2 n2 c2] 50) (.cells #[.int .i64 d.dflt, .int .i64 d.closed, .int .i64 d.fuel, .int .i64 d.stack, .slice B1 m1 d1, .slice B2 m2 d2] 50)
    rw [← hW] at k1 k2 k3 k4 ⊢
    clear hW
    have x0 : W.cell? ⟨w.heap.size, 0, none⟩ = _ := cellAt k1 0
    have y0 : W.cell? ⟨w.heap.size + 1, 0, none⟩ = _ := cellAt k2 0
    have x1 : W.cell? ⟨w.heap.size, 1, none⟩ = _ := cellAt k1 1
    have y1 : W.cell? ⟨w.heap.size + 1, 1, none⟩ = _ := cellAt k2 1
    have x2 : W.cell? ⟨w.heap.size, 2, none⟩ = _ := cellAt k1 2
    have y2 : W.cell? ⟨w.heap.size + 1, 2, none⟩ = _ := cellAt k2 2
    have u0 : W.cell? ⟨w.heap.size + 1 + 1, 0, none⟩ = _ := cellAt k3 0
    have v0 : W.cell? ⟨w.heap.size + 1 + 1 + 1, 0, none⟩ = _ := cellAt k4 0
    have u1 : W.cell? ⟨w.heap.size + 1 + 1, 1, none⟩ = _ := cellAt k3 1
    have v1 : W.cell? ⟨w.heap.size + 1 + 1 + 1, 1, none⟩ = _ := cellAt k4 1
    have u2 : W.cell? ⟨w.heap.size + 1 + 1, 2, none⟩ = _ := cellAt k3 2
    have v2 : W.cell? ⟨w.heap.size + 1 + 1 + 1, 2, none⟩ = _ := cellAt k4 2
    have u3 : W.cell? ⟨w.heap.size + 1 + 1, 3, none⟩ = _ := cellAt k3 3
    have v3 : W.cell? ⟨w.heap.size + 1 + 1 + 1, 3, none⟩ = _ := cellAt k4 3
    have u4 : W.cell? ⟨w.heap.size + 1 + 1, 4, none⟩ = _ := cellAt k3 4
    have v4 : W.cell? ⟨w.heap.size + 1 + 1 + 1, 4, none⟩ = _ := cellAt k4 4
    have u5 : W.cell? ⟨w.heap.size + 1 + 1, 5, none⟩ = _ := cellAt k3 5
    have v5 : W.cell? ⟨w.heap.size + 1 + 1 + 1, 5, none⟩ = _ := cellAt k4 5
    simp only [List.getElem?_toArray, List.getElem?_cons_zero, List.getElem?_cons_succ] at x0 y0 x1 y1 x2 y2 u0 v0 u1 v1 u2 v2 u3 v3 u4 v4 u5 v5
    clear k1 k2 k3 k4
    cases g0 : (e.view == d.view)
    · have G := hid (show ¬ e = d from fun h => by rw [h] at g0; simp at g0)
      go_wp2_with fail
      go_ret
      exact ⟨by rw [decide_eq_false G.out]; rfl, CB.out⟩
    cases g1 : (e.client == d.client)
    · have G := hid (show ¬ e = d from fun h => by rw [h] at g1; simp at g1)
      go_wp2_with fail
      go_ret
      exact ⟨by rw [decide_eq_false G.out]; rfl, CB.out⟩
    cases g2 : (e.request == d.request)
    · have G := hid (show ¬ e = d from fun h => by rw [h] at g2; simp at g2)
      go_wp2_with fail
      go_ret
      exact ⟨by rw [decide_eq_false G.out]; rfl, CB.out⟩
    cases g3 : (e.dflt == d.dflt)
    · have G := hid (show ¬ e = d from fun h => by rw [h] at g3; simp at g3)
      go_wp2_with fail
      go_ret
      exact ⟨by rw [decide_eq_false G.out]; rfl, CB.out⟩
    cases g4 : (e.closed == d.closed)
    · have G := hid (show ¬ e = d from fun h => by rw [h] at g4; simp at g4)
      go_wp2_with fail
      go_ret
      exact ⟨by rw [decide_eq_false G.out]; rfl, CB.out⟩
    cases g5 : (e.fuel == d.fuel)
    · have G := hid (show ¬ e = d from fun h => by rw [h] at g5; simp at g5)
      go_wp2_with fail
      go_ret
      exact ⟨by rw [decide_eq_false G.out]; rfl, CB.out⟩
    cases g6 : (e.stack == d.stack)
    · have G := hid (show ¬ e = d from fun h => by rw [h] at g6; simp at g6)
      go_wp2_with fail
      go_ret
      exact ⟨by rw [decide_eq_false G.out]; rfl, CB.out⟩
    have GN := hid (show e = d ↔ e.put = d.put ∧ e.drop = d.drop from by
      rw [entry_ext]
      simp at g0 g1 g2 g3 g4 g5 g6
      simp [g0, g1, g2, g3, g4, g5, g6])
    have U5 := hid u5
    have V5 := hid v5
    go_wp2_with fail
    clear x0 y0 x1 y1 x2 y2 u0 v0 u1 v1 u2 v2 u3 v3 u4 v4 u5 v5 g0 g1 g2 g3 g4 g5 g6
    refine (ruleseq_any (HE.out.2.1.chg CB.out (fun _ _ h => h)) (HD.out.2.1.chg CB.out (fun _ _ h => h))).mono ?_
    rintro e' w2 ⟨rfl, h2⟩
    have C2 := hid (CB.out.trans h2 (fun _ h _ => h))
    have z5 := h2.cell U5.out (fun h => h)
    have t5 := h2.cell V5.out (fun h => h)
    clear h2
    cases g7 : decide (e.put = d.put)
    · have G := hid (show ¬ e = d from fun h => of_decide_eq_false g7 (GN.out.1 h).1)
      clear g7
      go_wp2_with fail
      go_ret
      exact ⟨by rw [decide_eq_false G.out]; rfl, C2.out⟩
    have G7 := hid (of_decide_eq_true g7)
    clear g7
    go_wp2_with fail
    refine (numseq_any (HE.out.2.2.chg C2.out (fun _ _ h => h)) (HD.out.2.2.chg C2.out (fun _ _ h => h))).mono ?_
    rintro e' w3 ⟨rfl, h3⟩
    have C3 := hid (C2.out.trans h3 (fun _ h _ => h))
    have GE := hid (show decide (e = d) = decide (e.drop = d.drop) from by
      rw [decide_eq_decide]
      exact ⟨fun h => (GN.out.1 h).2, fun h => GN.out.2 ⟨G7.out, h⟩⟩)
    clear h3 z5 t5
    go_wp2_with fail
    go_ret
    exact ⟨by rw [GE.out]; rfl, C3.out⟩
  · obtain ⟨W, hW⟩ : ∃ W, W = ((((w.alloc (.cells #[.int .i64 e.view, .int .i64 e.client, .int .i64 e.request, .int .i64 e.dflt, .int .i64 e.closed, .int .i64 e.fuel, .int .i64 e.stack, .slice A1 n1 c1, .slice A2 n2 c2] 52)).alloc (.cells #[.int .i64 d.view, .int .i64 d.client, .int .i64 d.request, .int .i64 d.dflt, .int .i64 d.closed, .int .i64 d.fuel, .int .i64 d.stack, .slice B1 m1 d1, .slice B2 m2 d2] 52)).alloc (.cells #[.int .i64 d.dflt, .int .i64 d.closed, .int .i64 d.fuel, .int .i64 d.stack, .slice B1 m1 d1, .slice B2 m2 d2] 50)).alloc (.cells #[.int .i64 e.dflt, .int .i64 e.closed, .int .i64 e.fuel, .int .i64 e.stack, .slice A1 n1 c1, .slice A2 n2 c2] 50)).drew := ⟨_, rfl⟩
    have CB := hid (show Chg (fun _ => False) w W by rw [hW]; exact (((((Chg.refl (fun _ => False) w).alloc _).alloc _).alloc _).alloc _).drew)
    obtain ⟨k1, k2, k3, k4⟩ := four_blk w (.cells #[.int .i64 e.view, .int .i64 e.client, .int .i64 e.request, .int .i64 e.dflt, .int .i64 e.closed, .int .i64 e.fuel, .int .i64 e.stack, .slice A1 n1 c1, .slice A2 n2 c2] 52) (.cells #[.int .i64 d.view, .int .i64 d.client, .int .i64 d.request, .int .i64 d.dflt, .int .i64 d.closed, .int .i64 d.fuel, .int .i64 d.stack, .slice B1 m1 d1, .slice B2 m2 d2] 52) (.cells #[.int .i64 d.dflt, .int .i64 d.closed, .int .i64 d.fuel, .int .i64 d.stack, .slice B1 m1 d1, .slice B2 m2 d2] 50) (.cells #[.int .i64 e.dflt, .int .i64 e.closed, .int .i64 e.fuel, .int .i64 e.stack, .slice A1 n1 c1, .slice A2 n2 c2] 50)
    rw [← hW] at k1 k2 k3 k4 ⊢
    clear hW
    have x0 : W.cell? ⟨w.heap.size, 0, none⟩ = _ := cellAt k1 0
    have y0 : W.cell? ⟨w.heap.size + 1, 0, none⟩ = _ := cellAt k2 0
    have x1 : W.cell? ⟨w.heap.size, 1, none⟩ = _ := cellAt k1 1
    have y1 : W.cell? ⟨w.heap.size + 1, 1, none⟩ = _ := cellAt k2 1
    have x2 : W.cell? ⟨w.heap.size, 2, none⟩ = _ := cellAt k1 2
    have y2 : W.cell? ⟨w.heap.size + 1, 2, none⟩ = _ := cellAt k2 2
    have u0 : W.cell? ⟨w.heap.size + 1 + 1 + 1, 0, none⟩ = _ := cellAt k4 0
    have v0 : W.cell? ⟨w.heap.size + 1 + 1, 0, none⟩ = _ := cellAt k3 0
    have u1 : W.cell? ⟨w.heap.size + 1 + 1 + 1, 1, none⟩ = _ := cellAt k4 1
    have v1 : W.cell? ⟨w.heap.size + 1 + 1, 1, none⟩ = _ := cellAt k3 1
    have u2 : W.cell? ⟨w.heap.size + 1 + 1 + 1, 2, none⟩ = _ := cellAt k4 2
    have v2 : W.cell? ⟨w.heap.size + 1 + 1, 2, none⟩ = _ := cellAt k3 2
    have u3 : W.cell? ⟨w.heap.size + 1 + 1 + 1, 3, none⟩ = _ := cellAt k4 3
    have v3 : W.cell? ⟨w.heap.size + 1 + 1, 3, none⟩ = _ := cellAt k3 3
    have u4 : W.cell? ⟨w.heap.size + 1 + 1 + 1, 4, none⟩ = _ := cellAt k4 4
    have v4 : W.cell? ⟨w.heap.size + 1 + 1, 4, none⟩ = _ := cellAt k3 4
    have u5 : W.cell? ⟨w.heap.size + 1 + 1 + 1, 5, none⟩ = _ := cellAt k4 5
    have v5 : W.cell? ⟨w.heap.size + 1 + 1, 5, none⟩ = _ := cellAt k3 5
    simp only [List.getElem?_toArray, List.getElem?_cons_zero, List.getElem?_cons_succ] at x0 y0 x1 y1 x2 y2 u0 v0 u1 v1 u2 v2 u3 v3 u4 v4 u5 v5
    clear k1 k2 k3 k4
    cases g0 : (e.view == d.view)
    · have G := hid (show ¬ e = d from fun h => by rw [h] at g0; simp at g0)
      go_wp2_with fail
      go_ret
      exact ⟨by rw [decide_eq_false G.out]; rfl, CB.out⟩
    cases g1 : (e.client == d.client)
    · have G := hid (show ¬ e = d from fun h => by rw [h] at g1; simp at g1)
      go_wp2_with fail
      go_ret
      exact ⟨by rw [decide_eq_false G.out]; rfl, CB.out⟩
    cases g2 : (e.request == d.request)
    · have G := hid (show ¬ e = d from fun h => by rw [h] at g2; simp at g2)
      go_wp2_with fail
      go_ret
      exact ⟨by rw [decide_eq_false G.out]; rfl, CB.out⟩
    cases g3 : (e.dflt == d.dflt)
    · have G := hid (show ¬ e = d from fun h => by rw [h] at g3; simp at g3)
      go_wp2_with fail
      go_ret
      exact ⟨by rw [decide_eq_false G.out]; rfl, CB.out⟩
    cases g4 : (e.closed == d.closed)
    · have G := hid (show ¬ e = d from fun h => by rw [h] at g4; simp at g4)
      go_wp2_with fail
      go_ret
      exact ⟨by rw [decide_eq_false G.out]; rfl, CB.out⟩
    cases g5 : (e.fuel == d.fuel)
    · have G := hid (show ¬ e = d from fun h => by rw [h] at g5; simp at g5)
      go_wp2_with fail
      go_ret
      exact ⟨by rw [decide_eq_false G.out]; rfl, CB.out⟩
    cases g6 : (e.stack == d.stack)
    · have G := hid (show ¬ e = d from fun h => by rw [h] at g6; simp at g6)
      go_wp2_with fail
      go_ret
      exact ⟨by rw [decide_eq_false G.out]; rfl, CB.out⟩
    have GN := hid (show e = d ↔ e.put = d.put ∧ e.drop = d.drop from by
      rw [entry_ext]
      simp at g0 g1 g2 g3 g4 g5 g6
      simp [g0, g1, g2, g3, g4, g5, g6])
    have U5 := hid u5
    have V5 := hid v5
    go_wp2_with fail
    clear x0 y0 x1 y1 x2 y2 u0 v0 u1 v1 u2 v2 u3 v3 u4 v4 u5 v5 g0 g1 g2 g3 g4 g5 g6
    refine (ruleseq_any (HE.out.2.1.chg CB.out (fun _ _ h => h)) (HD.out.2.1.chg CB.out (fun _ _ h => h))).mono ?_
    rintro e' w2 ⟨rfl, h2⟩
    have C2 := hid (CB.out.trans h2 (fun _ h _ => h))
    have z5 := h2.cell U5.out (fun h => h)
    have t5 := h2.cell V5.out (fun h => h)
    clear h2
    cases g7 : decide (e.put = d.put)
    · have G := hid (show ¬ e = d from fun h => of_decide_eq_false g7 (GN.out.1 h).1)
      clear g7
      go_wp2_with fail
      go_ret
      exact ⟨by rw [decide_eq_false G.out]; rfl, C2.out⟩
    have G7 := hid (of_decide_eq_true g7)
    clear g7
    go_wp2_with fail
    refine (numseq_any (HE.out.2.2.chg C2.out (fun _ _ h => h)) (HD.out.2.2.chg C2.out (fun _ _ h => h))).mono ?_
    rintro e' w3 ⟨rfl, h3⟩
    have C3 := hid (C2.out.trans h3 (fun _ h _ => h))
    have GE := hid (show decide (e = d) = decide (e.drop = d.drop) from by
      rw [decide_eq_decide]
      exact ⟨fun h => (GN.out.1 h).2, fun h => GN.out.2 ⟨G7.out, h⟩⟩)
    clear h3 z5 t5
    go_wp2_with fail
    go_ret
    exact ⟨by rw [GE.out]; rfl, C3.out⟩
end Go.Proofs.Ytfpjickdkkhndaa.Pa


/- The contracts of slices.EqualFunc at entries, and of the program's Same. -/

namespace Go.Proofs.Ytfpjickdkkhndaa.Pa

set_option linter.unusedVariables false

set_option linter.unusedSimpArgs false

open Go.RowKit Go.Proofs.Ytfpjickdkkhndaa.C

attribute [local go_sem] max2_int min2_int max_two min_two

set_option maxHeartbeats 4000000 in
set_option maxRecDepth 100000 in
theorem equalfunc_any {R R' : Nat → Prop} {xs ys : List Entry} {A A' : Option Addr} {n c n' c' : Nat} {w : World} (h : Ty.At entryK w R A n c xs) (h' : Ty.At entryK w R' A' n' c' ys) :
    Calls Try.prog 89 #[.slice A n c, .slice A' n' c', .func (.func 90) #[] #[]] w fun e w' => e = .returned (.bool (decide (xs = ys))) ∧ Chg (fun _ => False) w w' := by
  have HX := hid h
  have HY := hid h'
  have LX := hid h.1
  have LY := hid h'.1
  have hn : (n : Int) ≤ 9223372036854775807 := by have q1 := h.2.1; have q2 := h.2.2.1; simp [maxLen] at q2; omega
  have eg : ∀ args w, (callFunc 90 args).run Try.prog w = .ok (.enter 90 args) w := Go.Proofs.enters_of Try.func90 (by kernel_rfl) rfl
  clear h h'
  by_cases hnm : n = n'
  case neg =>
    have HN := hid (show ¬ xs = ys from fun e => hnm (by rw [LX.out, LY.out, e]))
    have hnm2 : ¬ (n : Int) = (n' : Int) := by omega
    clear hnm
    go_enter Try.func89, Try.ntmps89
    go_wp2_with fail
    go_ret
    exact ⟨by rw [decide_eq_false HN.out]; rfl, Chg.refl _ _⟩
  subst hnm
  go_enter Try.func89, Try.ntmps89
  go_wp2_with fail
  go_loopw [17] (fun i wr => ∃ k : Nat, k ≤ n ∧ i = .int .i64 k ∧ xs.take k = ys.take k ∧ Chg (fun _ => False) w wr) (fun i _ => n - (intOf i).toNat)
  case atStart => exact ⟨0, Nat.zero_le _, rfl, rfl, Chg.refl _ _⟩
  case round =>
    obtain ⟨k, hk, rfl, he, hC⟩ := hrel
    have HE := hid he
    have HC := hid hC
    clear he
    by_cases hlt : k < n
    · obtain ⟨x, hx⟩ : ∃ x, xs[k]? = some x := ⟨_, List.getElem?_eq_getElem (by have := LX.out; omega)⟩
      obtain ⟨y, hy⟩ : ∃ y, ys[k]? = some y := ⟨_, List.getElem?_eq_getElem (by have := LY.out; omega)⟩
      obtain ⟨a, cs, ha, haR, hK, hcs⟩ := HX.out.get (by decide) hx
      obtain ⟨b, ds, hb, hbR, hK', hds⟩ := HY.out.get (by decide) hy
      obtain ⟨E1, p1, r1, E2, p2, r2, rfl, hrw⟩ := entry_open (id hK)
      obtain ⟨D1, q1, s1, D2, q2, s2, rfl, hrw'⟩ := entry_open (id hK')
      have HRX := hid (hrw.chg hC (fun _ _ h => h))
      have HRY := hid (hrw'.chg hC (fun _ _ h => h))
      subst ha hb
      have hcs2 : ∀ j u, (entryCells x E1 p1 r1 E2 p2 r2)[j]? = some u → wr.cell? (a.add (k * 9 + j)) = some u := fun j u hj => hC.cell (hcs j u hj) (fun h => h)
      have hds2 : ∀ j u, (entryCells y D1 q1 s1 D2 q2 s2)[j]? = some u → wr.cell? (b.add (k * 9 + j)) = some u := fun j u hj => hC.cell (hds j u hj) (fun h => h)
      have x0 := elem_cell0 hcs2 _ rfl
      have y0 := elem_cell0 hds2 _ rfl
      have x1 := elem_cell hcs2 0 _ rfl
      have y1 := elem_cell hds2 0 _ rfl
      have x2 := elem_cell hcs2 1 _ rfl
      have y2 := elem_cell hds2 1 _ rfl
      have x3 := elem_cell hcs2 2 _ rfl
      have y3 := elem_cell hds2 2 _ rfl
      have x4 := elem_cell hcs2 3 _ rfl
      have y4 := elem_cell hds2 3 _ rfl
      have x5 := elem_cell hcs2 4 _ rfl
      have y5 := elem_cell hds2 4 _ rfl
      have x6 := elem_cell hcs2 5 _ rfl
      have y6 := elem_cell hds2 5 _ rfl
      have x7 := elem_cell hcs2 6 _ rfl
      have y7 := elem_cell hds2 6 _ rfl
      have x8 := elem_cell hcs2 7 _ rfl
      have y8 := elem_cell hds2 7 _ rfl
      have TX := hid (show xs.take (k + 1) = xs.take k ++ [x] by rw [List.take_add_one, hx]; rfl)
      have TY := hid (show ys.take (k + 1) = ys.take k ++ [y] by rw [List.take_add_one, hy]; rfl)
      have NE := hid (show x ≠ y → xs ≠ ys from fun h e => h (by subst e; rw [hx] at hy; injection hy))
      clear hcs hds hK hK' hcs2 hds2 hx hy haR hbR hrw hrw' hC
      have hlt2 : (k : Int) < (n : Int) := by omega
      obtain ⟨wB, hwB⟩ : ∃ wB, wB = (wr.alloc (.cells #[.int .i64 x.view, .int .i64 x.client, .int .i64 x.request, .int .i64 x.dflt, .int .i64 x.closed, .int .i64 x.fuel, .int .i64 x.stack, .slice E1 p1 r1, .slice E2 p2 r2] 52)).alloc (.cells #[.int .i64 y.view, .int .i64 y.client, .int .i64 y.request, .int .i64 y.dflt, .int .i64 y.closed, .int .i64 y.fuel, .int .i64 y.stack, .slice D1 q1 s1, .slice D2 q2 s2] 52) := ⟨_, rfl⟩
      have CB := hid (show Chg (fun _ => False) wr wB by rw [hwB]; exact ((Chg.refl _ wr).alloc _).alloc _)
      have HWB := hid hwB
      clear hwB
      have z0 := ((Chg.refl (fun _ => False) wr).alloc (.cells #[.int .i64 x.view, .int .i64 x.client, .int .i64 x.request, .int .i64 x.dflt, .int .i64 x.closed, .int .i64 x.fuel, .int .i64 x.stack, .slice E1 p1 r1, .slice E2 p2 r2] 52)).cell y0 (fun h => h)
      have z1 := ((Chg.refl (fun _ => False) wr).alloc (.cells #[.int .i64 x.view, .int .i64 x.client, .int .i64 x.request, .int .i64 x.dflt, .int .i64 x.closed, .int .i64 x.fuel, .int .i64 x.stack, .slice E1 p1 r1, .slice E2 p2 r2] 52)).cell y1 (fun h => h)
      have z2 := ((Chg.refl (fun _ => False) wr).alloc (.cells #[.int .i64 x.view, .int .i64 x.client, .int .i64 x.request, .int .i64 x.dflt, .int .i64 x.closed, .int .i64 x.fuel, .int .i64 x.stack, .slice E1 p1 r1, .slice E2 p2 r2] 52)).cell y2 (fun h => h)
      have z3 := ((Chg.refl (fun _ => False) wr).alloc (.cells #[.int .i64 x.view, .int .i64 x.client, .int .i64 x.request, .int .i64 x.dflt, .int .i64 x.closed, .int .i64 x.fuel, .int .i64 x.stack, .slice E1 p1 r1, .slice E2 p2 r2] 52)).cell y3 (fun h => h)
      have z4 := ((Chg.refl (fun _ => False) wr).alloc (.cells #[.int .i64 x.view, .int .i64 x.client, .int .i64 x.request, .int .i64 x.dflt, .int .i64 x.closed, .int .i64 x.fuel, .int .i64 x.stack, .slice E1 p1 r1, .slice E2 p2 r2] 52)).cell y4 (fun h => h)
      have z5 := ((Chg.refl (fun _ => False) wr).alloc (.cells #[.int .i64 x.view, .int .i64 x.client, .int .i64 x.request, .int .i64 x.dflt, .int .i64 x.closed, .int .i64 x.fuel, .int .i64 x.stack, .slice E1 p1 r1, .slice E2 p2 r2] 52)).cell y5 (fun h => h)
      have z6 := ((Chg.refl (fun _ => False) wr).alloc (.cells #[.int .i64 x.view, .int .i64 x.client, .int .i64 x.request, .int .i64 x.dflt, .int .i64 x.closed, .int .i64 x.fuel, .int .i64 x.stack, .slice E1 p1 r1, .slice E2 p2 r2] 52)).cell y6 (fun h => h)
      have z7 := ((Chg.refl (fun _ => False) wr).alloc (.cells #[.int .i64 x.view, .int .i64 x.client, .int .i64 x.request, .int .i64 x.dflt, .int .i64 x.closed, .int .i64 x.fuel, .int .i64 x.stack, .slice E1 p1 r1, .slice E2 p2 r2] 52)).cell y7 (fun h => h)
      have z8 := ((Chg.refl (fun _ => False) wr).alloc (.cells #[.int .i64 x.view, .int .i64 x.client, .int .i64 x.request, .int .i64 x.dflt, .int .i64 x.closed, .int .i64 x.fuel, .int .i64 x.stack, .slice E1 p1 r1, .slice E2 p2 r2] 52)).cell y8 (fun h => h)
      go_wp2_with fail
      rw [← HWB.out]
      clear HWB x0 y0 x1 y1 x2 y2 x3 y3 x4 y4 x5 y5 x6 y6 x7 y7 x8 y8 z0 z1 z2 z3 z4 z5 z6 z7 z8
      refine (same_any (e := x) (d := y) (HRX.out.chg CB.out (fun _ _ h => h)) (HRY.out.chg CB.out (fun _ _ h => h))).mono ?_
      rintro e w2 ⟨rfl, h2⟩
      have C2 := hid ((HC.out.trans CB.out (fun _ h _ => h)).trans h2 (fun _ h _ => h))
      clear h2
      cases g : decide (x = y)
      · have HN := hid (NE.out (of_decide_eq_false g))
        clear g
        go_wp2_with fail
        go_ret
        exact ⟨by rw [decide_eq_false HN.out]; rfl, C2.out⟩
      · have HN := hid (show xs.take (k + 1) = ys.take (k + 1) by rw [TX.out, TY.out, HE.out, of_decide_eq_true g])
        clear g
        go_wp2_with fail
        go_roundw
        case measure => simp [intOf]; omega
        case rel => first | exact ⟨k + 1, hlt, by go_num, HN.out, C2.out⟩ | ((repeat apply Exists.intro); exact ⟨⟨k + 1, hlt, by go_num, HN.out, C2.out⟩, rfl⟩)
    · have hkn : ¬ (k : Int) < (n : Int) := by omega
      clear hC eg
      go_wp2_with fail
      go_ret
      have e := HE.out
      rw [List.take_of_length_le (by have := LX.out; omega), List.take_of_length_le (by have := LY.out; omega)] at e
      exact ⟨by rw [decide_eq_true e]; rfl, HC.out⟩

set_option maxHeartbeats 4000000 in
set_option maxRecDepth 100000 in
theorem Same_any {R R' : Nat → Prop} {xs ys : List Entry} {A A' : Option Addr} {n c n' c' : Nat} {w : World} (h : Ty.At entryK w R A n c xs) (h' : Ty.At entryK w R' A' n' c' ys) :
    Calls Try.prog 78 #[.slice A n c, .slice A' n' c'] w fun e w' => e = .returned (.bool (decide (xs = ys))) ∧ Chg (fun _ => False) w w' := by
  have HX := hid h
  have HY := hid h'
  clear h h'
  go_enter Try.func78, Try.ntmps78
  go_wp2_with fail
  refine (equalfunc_any HX.out HY.out).mono ?_
  rintro e w1 ⟨rfl, h1⟩
  have H1 := hid h1
  clear h1
  go_wp2_with fail
  go_ret
  exact ⟨rfl, H1.out⟩
end Go.Proofs.Ytfpjickdkkhndaa.Pa
