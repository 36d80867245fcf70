
/- The contracts of the codec's list at numbers. -/

import Derived.Test.YtcmfgijdelaelaaPackLr

import Derived.Shelf.Abstract

namespace Go.Proofs.Ytcmfgijdelaelaa.Pa

set_option linter.unusedVariables false

set_option linter.unusedSimpArgs false

open Go.RowKit Go.Proofs.Ytcmfgijdelaelaa.C

attribute [local go_sem] max2_int min2_int max_two min_two

theorem nums_next {xs : List (Int)} {k : Nat} {r : Int} (h : xs[k]? = some r) (y : List UInt8) : y ++ (xs.take k).flatMap num ++ num r = y ++ (xs.take (k + 1)).flatMap num := by
  rw [List.take_add_one, h, Option.toList_some, List.flatMap_append, List.append_assoc, List.flatMap_singleton]
theorem nums_len {xs : List (Int)} (h : ∀ r ∈ xs, NumOk r) (k : Nat) : ((xs.take k).flatMap num).length ≤ 6 * k := by
  induction k with
  | zero => simp
  | succ k ih =>
    rw [List.take_add_one, List.flatMap_append, List.length_append]
    cases hx : xs[k]? with
    | none => rw [Option.toList_none, List.flatMap_nil, List.length_nil]; omega
    | some r =>
      have := (fun _ => by rw [num_len]; omega : ∀ {r : Int}, NumOk r → (num r).length ≤ 6) (h r (List.mem_of_getElem? hx))
      simp only [Option.toList_some, List.flatMap_singleton]
      omega

set_option maxHeartbeats 4000000 in
set_option maxRecDepth 100000 in
theorem nums_w {w : World} {S R : Nat → Prop} {g p o bx : Nat} {v : Value} {x : List UInt8} {A : Option Addr} {n c : Nat} {xs : List (Int)} (h : Wr w S g v x) (hp : w.cell? ⟨p, o, none⟩ = some (.slice A n c)) (hpS : ¬ S p) (hl : Ty.At (Ty.int .i64) w R A n c xs) (hR : ∀ k, R k → ¬ S k)
    (hb : w.cell? ⟨bx, 0, none⟩ = some (.pointer (some ⟨g, 0, none⟩))) (hbS : ¬ S bx) (hok : ∀ r ∈ xs, NumOk r) (hn : n ≤ 100) (hx : x.length ≤ 600000000) (least : Int) :
    Calls Try.prog 70 #[.pointer (some ⟨g, 0, none⟩), .pointer (some ⟨p, o, none⟩), .int .i64 least, .func (.func 71) #[] #[.pointer (some ⟨bx, 0, none⟩)]] w fun e w' => e = .returned (.tuple #[]) ∧ WrTo S g (x ++ num n ++ xs.flatMap num) w w' := by
  have HB := hid h
  have HP := hid hp
  have HL := hid hl
  have HLB := hid hl.bound
  have HR := hid hR
  have HOK := hid hok
  have HBX := hid hb
  have HBL := hid (World.block_lt_of_cell? w _ hb)
  have hn2 : (n : Int) ≤ 100 := by omega
  have eg : ∀ args w, (callFunc 71 args).run Try.prog w = .ok (.enter 71 args) w := Go.Proofs.enters_of Try.func71 (by kernel_rfl) rfl
  clear h hl hR hok hb
  go_enter Try.func70, Try.ntmps70
  go_wp2_with fail
  refine (count_w HB.out (n := (n : Int)) ⟨by omega, by omega⟩ (by omega) least).mono ?_
  rintro e w1 ⟨rfl, v1, h1, hc1⟩
  have H1 := hid h1
  have HC1 := hid hc1
  have hd2 := h1.cells.2.2.1
  have hp1 : w1.cell? ⟨p, o, none⟩ = some (.slice A n c) := hc1.cell HP.out hpS
  clear h1 hc1 hp
  go_wp2_with fail
  clear hd2 hp1
  go_loopw [28] (fun i wr => ∃ k : Nat, k ≤ n ∧ i = .int .i64 k ∧ WrTo S g (x ++ num n ++ (xs.take k).flatMap num) w wr) (fun i _ => n - (intOf i).toNat)
  case atStart => exact ⟨0, Nat.zero_le _, rfl, by simpa using ⟨v1, H1.out, HC1.out⟩⟩
  case round =>
    obtain ⟨k, hk, rfl, hT⟩ := hrel
    have HT := hid hT
    clear hT
    by_cases hlt : k < n
    · obtain ⟨r, hr⟩ : ∃ r, xs[k]? = some r := ⟨_, List.getElem?_eq_getElem (by have := HL.out.1; omega)⟩
      have HRO := hid (HOK.out r (List.mem_of_getElem? hr))
      obtain ⟨a, cs, ha, haR, hK, hcs⟩ := HLB.out.get (by decide) hr
      obtain ⟨rfl, hrw⟩ := (id hK)
      clear hrw
      subst ha
      have hcs2 : ∀ j u, ([Value.int .i64 r])[j]? = some u → wr.cell? (a.add (k * 1 + j)) = some u := fun j u hj => by
        obtain ⟨_, _, hc⟩ := HT.out
        exact hc.cell (hcs j u hj) (by rw [add_block]; exact HR.out _ haR.1)
      have x0 := elem_cell0 hcs2 _ rfl
      rw [Nat.mul_one] at x0
      have HRR := hid (nums_next hr)
      clear hcs hK hcs2 hr haR
      have hlt2 : (k : Int) < (n : Int) := by omega
      obtain ⟨v2, hv2, hc2⟩ := HT.out
      have H2 := hid hv2.bound
      have HC2 := hid hc2
      have hlen : (x ++ num n ++ (xs.take k).flatMap num).length ≤ 700000000 := by
        have := nums_len HOK.out k
        rw [List.length_append, List.length_append, num_len]
        omega
      clear hv2 hc2
      go_wp2_with fail
      have CB := hid (show Chg (fun _ => False) wr (wr.alloc (.cells ([Value.int .i64 r]).toArray 3)) from (Chg.refl _ wr).alloc _)
      refine (one_w (S := fun k => (S k ∨ w.heap.size ≤ k) ∧ k < wr.heap.size) (u := r) (H2.out.chg CB.out (fun _ _ h => h)) (blk_new wr _) (fun hs => Nat.lt_irrefl _ hs.2) (CB.out.cell (HC2.out.cell HBX.out hbS) (fun h => h)) HRO.out (by omega)).mono ?_
      rintro e w3 ⟨rfl, h3⟩
      have HF := hid (HT.out.trans (WrTo.pre (S := fun k => S k ∨ w.heap.size ≤ k) CB.out h3 (fun k hk => .inl hk.1)))
      clear h3 x0
      rw [HRR.out] at HF
      go_wp2_with fail
      go_roundw
      case measure => simp [intOf]; omega
      case rel => first | exact ⟨k + 1, by omega, by go_num, HF.out⟩ | ((repeat apply Exists.intro); exact ⟨⟨k + 1, by omega, by go_num, HF.out⟩, rfl⟩)
    · clear eg
      go_wp2_with fail
      obtain rfl : k = n := by omega
      refine bodyPost_ret (results_none rfl _ _ _) rfl ?_
      have := HT.out
      rw [List.take_of_length_le (by have := HL.out.1; omega)] at this
      exact ⟨rfl, this⟩

/-- A list was read. -/
def Nums_To (w : World) (B g : Nat) (A : Option Addr) (n c : Nat) (b : List UInt8) (at_ : Nat) (bad : Bool) (p o tp : Nat) (cs : Array Value) (L : Nat) (w' : World) : Prop :=
  ∃ (xs : List (Int)) (A' : Option Addr) (c' : Nat), xs.length ≤ n ∧ w'.heap[p]? = some (.cells (cs.setIfInBounds o (.slice A' xs.length c')) tp (0, 0)) ∧ Vec (Ty.int .i64) 3 w' (fun k => w.heap.size ≤ k) (fun k => w.heap.size ≤ k) (.slice A' xs.length c') xs ∧ Chg (fun j => j = g ∨ j = p) w w' ∧ RdTo B g A n c b at_ bad (rdSeq L rdNum) w' xs
/-- k of its elements were read; the count's end is at1. -/
structure Nums_At (w : World) (B g : Nat) (A : Option Addr) (n c : Nat) (b : List UInt8) (p o tp : Nat) (cs : Array Value) (Y : Option (List UInt8)) (k : Nat) (us : List (Int)) (A' : Option Addr) (c' at' : Nat) (bad' : Bool) (wr : World) : Prop where
  len : us.length = k
  blk : wr.heap[p]? = some (.cells (cs.setIfInBounds o (.slice A' k c')) tp (0, 0))
  vec : Vec (Ty.int .i64) 3 wr (fun k => w.heap.size ≤ k) (fun k => w.heap.size ≤ k) (.slice A' k c') us
  chg : Chg (fun j => j = g ∨ j = p) w wr
  rd : Rd wr B g A n c b at' bad'
  eq : Y.bind (rdList rdNum k) = (left b at' bad').map fun r => (us, r)
theorem infonums : (Try.prog.info? 3).map (fun i => (i.zero, i.size, i.bytes)) = some (some (.int .i64 0), 1, 8) := by kernel_rfl
theorem nums_seq {L : Nat} {X Y : Option (List UInt8)} {q : Nat} (h : X.bind (rdCountL L) = Y.map fun r => (q, r)) : X.bind (rdSeq L rdNum) = Y.bind (rdList rdNum q) := by
  have e : X.bind (rdSeq L rdNum) = (X.bind (rdCountL L)).bind fun r => rdList rdNum r.1 r.2 := by cases X <;> rfl
  rw [e, h]
  cases Y <;> rfl
theorem Nums_At.step {w : World} {B g : Nat} {A : Option Addr} {n c : Nat} {b : List UInt8} {p o tp : Nat} {cs : Array Value} {Y : Option (List UInt8)} {k : Nat} {us : List (Int)} {A' : Option Addr} {c' at' : Nat} {wr w3 w4 : World} {y : Int} {A4 : Option Addr} {c4 at2 : Nat} {bad2 : Bool} {ox : Nat}
    (h : Nums_At w B g A n c b p o tp cs Y k us A' c' at' false wr) (hpg : p ≠ g) (hox : wr.heap.size ≤ ox) (hc3 : Chg (fun j => j = g ∨ j = ox) wr w3) (hrd : Rd w3 B g A n c b at2 bad2) (heq : (left b at' false).bind rdNum = (left b at2 bad2).map fun r => (y, r)) (hpw : B ≤ p ∧ p < w.heap.size)
    (hv4 : Vec (Ty.int .i64) 3 w4 (fun k => w.heap.size ≤ k) (fun k => w.heap.size ≤ k) (.slice A4 (k + 1) c4) (us ++ [y])) (hc4 : Chg (fun j => (Value.slice A' k c').ownBlock = some j) w3 w4) :
    Nums_At w B g A n c b p o tp cs Y (k + 1) (us ++ [y]) A4 c4 at2 bad2 (w4.setCell ⟨p, o, none⟩ (.slice A4 (k + 1) c4)) := by
  have hlt := h.vec.lt
  have hge := h.vec.inS
  have hB := h.rd.low
  have hg := h.rd.lt
  have hgw : g < w.heap.size ∨ w.heap.size ≤ g := by omega
  have hpown : (Value.slice A' k c').ownBlock ≠ some p := fun e => by have := hge p e; omega
  have hgown : (Value.slice A' k c').ownBlock ≠ some g := h.vec.ne h.rd.blk (by decide)
  have b3 := hc3.blk h.blk (fun e => by rcases e with e | e; exact hpg e; have := lt_of_blk h.blk; omega)
  have b4 := hc4.blk b3 hpown
  have bs := blk_set b4 o (.slice A4 (k + 1) c4)
  rw [Array.setIfInBounds_setIfInBounds] at bs
  have cs4 : Chg (fun j => j = p) w4 (w4.setCell ⟨p, o, none⟩ (.slice A4 (k + 1) c4)) := (Chg.refl (fun j => j = p) w4).set (p := ⟨p, o, none⟩) (fun _ => rfl) _
  have hv4p : (Value.slice A4 (k + 1) c4).ownBlock ≠ some p := fun e => by have := hv4.inS p e; omega
  refine ⟨by rw [List.length_append, h.len]; rfl, bs, hv4.chg cs4 (fun j hj e => hv4p (e ▸ hj)) (fun j hj _ _ e => by subst e; omega), ?_, ?_, ?_⟩
  · refine ((h.chg.trans hc3 (fun j hj hl => ?_)).trans hc4 (fun j hj hl => ?_)).trans cs4 (fun j hj _ => .inr hj)
    · rcases hj with hj | hj
      · exact .inl hj
      · have := h.chg.size; omega
    · have := hge j hj; omega
  · exact (hrd.chg (M := fun j => (Value.slice A' k c').ownBlock = some j) hc4 (fun j hj => by have := hge j hj; omega) hgown).chg cs4 (fun j hj => by subst hj; exact hpw.1) (fun e => hpg e.symm)
  · rw [rdList_step h.eq, heq]
    cases (left b at2 bad2) <;> rfl
theorem Nums_At.done {w : World} {B g : Nat} {A : Option Addr} {n c : Nat} {b : List UInt8} {p o tp : Nat} {cs : Array Value} {k q L : Nat} {us : List (Int)} {A' : Option Addr} {c' at' : Nat} {bad' : Bool} {wr : World} {at_ at1 : Nat} {bad bad1 : Bool} (h : Nums_At w B g A n c b p o tp cs (left b at1 bad1) k us A' c' at' bad' wr)
    (he : (left b at_ bad).bind (rdCountL L) = (left b at1 bad1).map fun r => (q, r)) (hk : k ≤ q) (hq : q ≤ n) (hd : k = q ∨ bad' = true) : Nums_To w B g A n c b at_ bad p o tp cs L wr := by
  obtain rfl := h.len
  refine ⟨us, A', c', by omega, h.blk, h.vec, h.chg, at', bad', h.rd, ?_⟩
  rw [nums_seq he]
  rcases hd with rfl | rfl
  · exact h.eq
  · rw [left_none, Option.map_none]
    have := h.eq
    rw [left_none, Option.map_none] at this
    exact rdList_stop this hk

set_option maxHeartbeats 4000000 in
set_option maxRecDepth 100000 in
theorem nums_r {w : World} {B g p o bx tp : Nat} {A : Option Addr} {n c : Nat} {b : List UInt8} {at_ : Nat} {bad : Bool} {cs : Array Value} (h : Rd w B g A n c b at_ bad) (hp : w.heap[p]? = some (.cells cs tp (0, 0))) (ho : cs[o]? = some (.slice none 0 0)) (hpB : B ≤ p) (hpg : p ≠ g)
    (hb : w.cell? ⟨bx, 0, none⟩ = some (.pointer (some ⟨g, 0, none⟩))) (hbp : bx ≠ p ∧ bx ≠ g) (hn : n ≤ 1000000) {L : Nat} (hL : 0 < L) (hL2 : L ≤ 1000) :
    Calls Try.prog 70 #[.pointer (some ⟨g, 0, none⟩), .pointer (some ⟨p, o, none⟩), .int .i64 (L : Int), .func (.func 71) #[] #[.pointer (some ⟨bx, 0, none⟩)]] w fun e w' => e = .returned (.tuple #[]) ∧ Nums_To w B g A n c b at_ bad p o tp cs L w' := by
  have H := hid h
  have HP := hid hp
  have HO := hid ho
  have HBX := hid hb
  have HBL := hid (World.block_lt_of_cell? w _ hb)
  have HPL := hid (lt_of_blk hp)
  have HGL := hid h.lt
  have hn2 : (n : Int) ≤ 1000000 := by omega
  have eg : ∀ args w, (callFunc 71 args).run Try.prog w = .ok (.enter 71 args) w := Go.Proofs.enters_of Try.func71 (by kernel_rfl) rfl
  have hp0 : w.cell? ⟨p, o, none⟩ = some (.slice none 0 0) := by rw [cellAt hp]; exact ho
  clear h hp hb ho
  go_enter Try.func70, Try.ntmps70
  go_wp2_with fail
  refine (count_r H.out (k := 0) (by decide) (by omega) hL hL2).mono ?_
  rintro e w1 ⟨q, rfl, hqn, hc1, at1, bad1, hrd1, heq1⟩
  have HQ := hid heq1
  have hd2 := hrd1.cells.2.2.1
  have H0 := hid (show Nums_At w B g A n c b p o tp cs (left b at1 bad1) 0 [] none 0 at1 bad1 w1 from ⟨rfl, by
    have e : cs.setIfInBounds o (.slice none 0 0) = cs := set_same HO.out
    rw [e]
    exact hc1.blk HP.out hpg, Vec.nil _ _ _ _ _, hc1.mono (fun _ h _ => .inl h), hrd1, by cases bad1 <;> simp [left, rdList]⟩)
  clear hc1 hrd1 heq1 hp0
  go_wp2_with fail
  clear hd2
  go_loopw [11] (fun i wr => ∃ (k : Nat) (us : List (Int)) (A' : Option Addr) (c' at' : Nat) (bad' : Bool), k ≤ q ∧ i = .int .i64 k ∧ Nums_At w B g A n c b p o tp cs (left b at1 bad1) k us A' c' at' bad' wr) (fun i _ => q - (intOf i).toNat)
  case atStart => exact ⟨0, [], none, 0, at1, bad1, Nat.zero_le _, rfl, H0.out⟩
  case round =>
    obtain ⟨k, us, A', c', at', bad', hk, rfl, hT⟩ := hrel
    have HT := hid hT
    have hd3 := hT.rd.cells.2.2.2
    clear hT
    by_cases hlt : k < q
    · have hlt2 : (k : Int) < (q : Int) := by omega
      cases bad' with
      | true =>
        clear eg
        go_wp2_with fail
        go_end0
        exact ⟨rfl, HT.out.done HQ.out hk hqn (.inr rfl)⟩
      | false =>
        go_wp2_with fail
        clear hd3
        have CB := hid (show Chg (fun _ => False) wr (wr.alloc (.cells ([Value.int .i64 0]).toArray 3)) from (Chg.refl _ wr).alloc _)
        have BB := hid (show (wr.alloc (.cells ([Value.int .i64 0]).toArray 3)).heap[wr.heap.size]? = some (.cells ([Value.int .i64 0]).toArray 3 (0, 0)) from blk_new wr _)
        refine (one_r (u := 0) (HT.out.rd.chg CB.out (fun _ h => h.elim) (fun h => h)) BB.out (by have := HT.out.chg.size; have := HPL.out; omega) (by have := HT.out.rd.lt; omega) (CB.out.cell (HT.out.chg.cell HBX.out (fun h => by rcases h with h | h; exact hbp.2 h; exact hbp.1 h)) (fun h => h)) (by decide) (by omega)).mono ?_
        rintro e w3 ⟨rfl, y, hyw, hyb, h3, at2, bad2, h5, h6⟩
        have H5 := hid h5
        have H6 := hid h6
        have HYB := hid hyb
        have HYW := hid hyw
        have HPB := hid (show p < wr.heap.size from Nat.lt_of_lt_of_le HPL.out HT.out.chg.size)
        have C3 := hid (show Chg (fun j => j = g ∨ j = wr.heap.size) wr w3 from (CB.out.mono (fun _ h _ => h.elim)).trans h3 (fun _ h _ => h))
        have HPC := hid (C3.out.blk HT.out.blk (fun e => by rcases e with e | e; exact hpg e; have := HPB.out; omega))
        have HOB := hid (show ∀ j, (Value.slice A' k c').ownBlock = some j → j ≠ wr.heap.size ∧ j ≠ p ∧ j ≠ g from fun j hj => ⟨by have := HT.out.vec.lt j hj; omega, by have := HT.out.vec.inS j hj; have := HPL.out; omega, fun e => HT.out.vec.ne HT.out.rd.blk (by decide) (e ▸ hj)⟩)
        have HV3 := hid (HT.out.vec.chg C3.out (fun j hj e => by rcases e with e | e; exact (HOB.out j hj).2.2 e; exact (HOB.out j hj).1 e) (fun j hj _ hl e => by
          rcases e with e | e
          · have := HGL.out; omega
          · omega))
        obtain ⟨M, hMM⟩ : ∃ M : Nat → Prop, ∀ i, M i ↔ (Value.slice A' k c').ownBlock = some i := ⟨_, fun _ => Iff.rfl⟩
        have MM := hid hMM
        have hcell0 : ∀ wx, Chg M w3 wx → wx.cell? ⟨p, o, none⟩ = some (.slice A' k c') := fun wx hx => hx.cell (by
          rw [cellAt HPC.out]
          have := Array.getElem?_eq_some_iff.1 HO.out
          obtain ⟨hl, _⟩ := this
          simp [hl]) (fun h => (HOB.out _ ((MM.out _).1 h)).2.1 rfl)
        have hy0 : ∀ wx, Chg M w3 wx → wx.cell? ⟨wr.heap.size, 0, none⟩ = some (.int .i64 y) := fun wx hx => hx.cell (by rw [cellAt HYB.out]; rfl) (fun h => (HOB.out _ ((MM.out _).1 h)).1 rfl)
        have HKL := hid HT.out.len
        have h4 := (fun (w' : World) (D : Nat → Prop) (_ : Chg (fun _ => False) w3 w') (hD : ∀ j, wr.heap.size < j → j < w3.heap.size → D j) => (Ty.Row.one_ ⟨rfl, HYW.out⟩ : Ty.Row (Ty.int .i64) w' D [y] [Value.int .i64 y]))
        have H4 := hid h4
        clear h4 hMM h3 h5 h6 hyb hyw
        go_wp2_with fail
        refine wpB_start (fun wx : World => Chg M w3 wx) (by kernel_rfl) ?_
        have hHeld : (fun wx : World => Chg M w3 wx) _ := (by first | assumption | exact Chg.drew (Chg.refl _ _) | (show _ ∧ _; refine ⟨?_, ?_⟩ <;> assumption) | (first | assumption | exact hHeld.alloc _ | exact hHeld.trans h2 (fun _ h _ => (MM.out _).2 h)))
        -- 0: t49 := move t1 : 123
        refine wpB_take (i := 0) (v := ?_) (get_of_drop rfl) (by kernel_rfl) (by kernel_rfl) (by kernel_rfl) (by kernel_rfl) (fun _ _ _ h => h) (Or.inl ⟨by rfl, ?_⟩) hHeld ?_
        rotate_left
        · (intro w hSw; (try dsimp only at hSw); go_simp <;> with_reducible rfl)
        try simp only [Act.put, List.setIfInBounds_toArray, List.set_cons_zero, List.set_cons_succ]
        -- 1: t50 := move t1 : 123
        refine wpB_take (i := 1) (v := ?_) (get_of_drop rfl) (by kernel_rfl) (by kernel_rfl) (by kernel_rfl) (by kernel_rfl) (fun _ _ _ h => h) (Or.inl ⟨by rfl, ?_⟩) hHeld ?_
        rotate_left
        · (intro w hSw; (try dsimp only at hSw); go_simp <;> with_reducible rfl)
        try simp only [Act.put, List.setIfInBounds_toArray, List.set_cons_zero, List.set_cons_succ]
        -- 2: t51 := nilCheck t50 : 0
        refine wpB_take (i := 2) (v := ?_) (get_of_drop rfl) (by kernel_rfl) (by kernel_rfl) (by kernel_rfl) (by kernel_rfl) (fun _ _ _ h => h) (Or.inl ⟨by rfl, ?_⟩) hHeld ?_
        rotate_left
        · (intro w hSw; (try dsimp only at hSw); go_simp <;> with_reducible rfl)
        try simp only [Act.put, List.setIfInBounds_toArray, List.set_cons_zero, List.set_cons_succ]
        -- 3: t52 := load 61 t51 : 61
        refine wpB_take (i := 3) (v := ?_) (get_of_drop rfl) (by kernel_rfl) (by kernel_rfl) (by kernel_rfl) (by kernel_rfl) (fun _ _ _ h => h) (Or.inl ⟨by rfl, ?_⟩) hHeld ?_
        rotate_left
        · (intro w hSw; (try dsimp only at hSw); go_simp <;> with_reducible rfl)
        try simp only [Act.put, List.setIfInBounds_toArray, List.set_cons_zero, List.set_cons_succ]
        -- 4: t53 := load 3 t12 : 3
        refine wpB_take (i := 4) (v := ?_) (get_of_drop rfl) (by kernel_rfl) (by kernel_rfl) (by kernel_rfl) (by kernel_rfl) (fun _ _ _ h => h) (Or.inl ⟨by rfl, ?_⟩) hHeld ?_
        rotate_left
        · (intro w hSw; (try dsimp only at hSw); go_simp <;> with_reducible rfl)
        try simp only [Act.put, List.setIfInBounds_toArray, List.set_cons_zero, List.set_cons_succ]
        -- 5: t54 := buildSlice 61 1 [⟨0, t53⟩] : 61
        refine wpB_act (i := 5) (by kernel_rfl) (get_of_drop rfl) (fun K hK => ?_)
        go_simp
        refine hK.out _ _ ?_ (fun hHeld2 => ?_)
        · (first | assumption | exact hHeld.alloc _ | exact hHeld.trans h2 (fun _ h _ => (MM.out _).2 h))
        clear hHeld hK K
        have hHeld := hHeld2
        clear hHeld2
        try simp only [Act.put, List.setIfInBounds_toArray, List.set_cons_zero, List.set_cons_succ]
        -- 6: t55 := append(t52, t54) types [61, 61] : 61
        refine wpB_act (i := 6) (by kernel_rfl) (get_of_drop rfl) (fun K hK => ?_)
        refine vec_step (d := (Ty.int .i64)) _ rfl (.tmp 52) (.tmp 54) 61 3 (.int .i64 0) 8 rfl Try.underlying61 infonums rfl (by decide) (by decide) (.slice A' k c') rfl ((HV3.out.chg ((((Chg.refl (fun _ => False) w3).alloc _)).drew) (fun _ _ h => h) (fun _ _ _ _ h => h))) (some ⟨w3.heap.size, 0, none⟩) 1 1 (ys := [y]) rfl (by simp) (by omega) rfl (lit_sees w3 ([Value.int .i64 y]).toArray 3) (H4.out _ _ (((Chg.refl (fun _ => False) w3).alloc _).drew) (fun j q1 q2 => ⟨Nat.le_trans HT.out.chg.size (Nat.le_of_lt q1), fun e' => Nat.lt_irrefl _ (Nat.lt_trans (HT.out.vec.lt j e') q1), Nat.lt_of_lt_of_le q2 (((Chg.refl (fun _ => False) w3).alloc _).drew).size⟩)) (by rw [HKL.out]; omega) ?_
        have HH := hid hHeld
        rw [HKL.out]
        intro A4 c4 w4 h1 h2
        have f0' : w4.frozen? ⟨p, o, none⟩ = false := freeAt ((HH.out.trans h2 (fun _ h _ => (MM.out _).2 h)).blk HPC.out (fun h => (HOB.out _ ((MM.out _).1 h)).2.1 rfl)) o
        have c0' : w4.cell? ⟨p, o, none⟩ = some (.slice A' k c') := hcell0 _ (HH.out.trans h2 (fun _ h _ => (MM.out _).2 h))
        refine hK.out _ _ ?_ (fun hHeld2 => ?_)
        · (first | assumption | exact hHeld.alloc _ | exact hHeld.trans h2 (fun _ h _ => (MM.out _).2 h))
        clear hHeld hK K
        have hHeld := hHeld2
        clear hHeld2
        try simp only [Act.put, List.setIfInBounds_toArray, List.set_cons_zero, List.set_cons_succ]
        -- 7: t56 := nilCheck t49 : 0
        refine wpB_take (i := 7) (v := ?_) (get_of_drop rfl) (by kernel_rfl) (by kernel_rfl) (by kernel_rfl) (by kernel_rfl) (fun _ _ _ h => h) (Or.inl ⟨by rfl, ?_⟩) hHeld ?_
        rotate_left
        · (intro w hSw; (try dsimp only at hSw); go_simp <;> with_reducible rfl)
        try simp only [Act.put, List.setIfInBounds_toArray, List.set_cons_zero, List.set_cons_succ]
        -- 8: t- := store 61 t56 t55 : 0 (BARRIER)
        refine wpB_bar (i := 8) (by kernel_rfl) (get_of_drop rfl) (by kernel_rfl) (fun K hK => ?_)
        go_simp
        refine hK.out _ _ (fun _ : World => True) ?_
        clear hHeld hK K
        have hHeld := trivial
        try simp only [Act.put, List.setIfInBounds_toArray, List.set_cons_zero, List.set_cons_succ]
        refine wpB_done (by kernel_rfl) ?_ _
        have HN := hid (HT.out.step (w4 := w4) (A4 := A4) (c4 := c4) hpg (Nat.le_refl _) C3.out H5.out H6.out ⟨hpB, HPL.out⟩ (h1.mono (fun k h _ => by rcases h with h | h; exact h; exact Nat.le_trans (Nat.le_trans HT.out.chg.size C3.out.size) (Nat.le_trans (((Chg.refl (fun _ => False) w3).alloc _).drew).size h)) (fun k h _ => h)) (((Chg.refl (fun j => (Value.slice A' k c').ownBlock = some j) w3).alloc _).drew.trans h2 (fun _ h _ => h)))
        clear h1 h2 hHeld hcell0 f0' c0'
        go_wp2_with fail
        go_roundw
        case measure => simp [intOf]; omega
        case rel => first | exact ⟨k + 1, _, _, _, _, _, hlt, by go_num, HN.out⟩ | ((repeat apply Exists.intro); exact ⟨⟨k + 1, _, _, _, _, _, hlt, by go_num, HN.out⟩, rfl⟩)
    · clear eg
      have hkq : ¬ (k : Int) < (q : Int) := by omega
      go_wp2_with fail
      go_end0
      exact ⟨rfl, HT.out.done HQ.out hk hqn (.inl (by omega))⟩
end Go.Proofs.Ytcmfgijdelaelaa.Pa
