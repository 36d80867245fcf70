/- The law with its walk: LedO, LawsL, LawsO, WLedgerOwn, LawLedgerOwn. -/
import Derived.Test.YtfpjickdkkhndaaMG
import Derived.Test.YtfpjickdkkhndaaMI
import Derived.Test.YtfpjickdkkhndaaMF
import Derived.Test.YtfpjickdkkhndaaRows
import Derived.WalkKit
import Derived.ProofKit
import Derived.OpenShut
import Derived.ShutString
import Derived.ChangeOld
import Derived.Below
import Derived.SizedLaws

/- The contract of copied, once more: all that it makes lies in rows of one's own. -/

namespace Go.Proofs.Ytfpjickdkkhndaa.Pa

set_option linter.unusedVariables false

set_option linter.unusedSimpArgs false

open Go.RowKit Go.Proofs.Ytfpjickdkkhndaa.C

attribute [local go_sem] max2_int min2_int max_two min_two

/-- An entry whose rules and numbers lie in rows of one's own. -/
def entryW : Ty Entry where
  sz := 9
  K := fun w S x cs => ∃ v1 v2, cs = ints x.nums ++ [v1, v2] ∧ (∀ u ∈ x.nums, (Lit.int .i64 u).wf = true) ∧ Vec ruleK 54 w S (fun _ => False) v1 x.put ∧ Vec (Ty.int .i64) 3 w S (fun _ => False) v2 x.drop
  len := fun h => by obtain ⟨v1, v2, rfl, _⟩ := h; rfl
  one := fun h u hu => by
    obtain ⟨v1, v2, rfl, _, h1, h2⟩ := h
    obtain ⟨_, _, e1⟩ := h1.form
    obtain ⟨_, _, e2⟩ := h2.form
    subst e1 e2
    simp [ints, Entry.nums] at hu
    rcases hu with rfl | rfl | rfl | rfl | rfl | rfl | rfl | rfl | rfl <;> rfl
  chg := fun h hc hd => by
    obtain ⟨v1, v2, rfl, h0, h1, h2⟩ := h
    exact ⟨v1, v2, rfl, h0, h1.chg hc (fun k hk => hd k (h1.inS k hk)) (fun _ h => h.elim), h2.chg hc (fun k hk => hd k (h2.inS k hk)) (fun _ h => h.elim)⟩
  mono := fun h hd => by
    obtain ⟨v1, v2, rfl, h0, h1, h2⟩ := h
    exact ⟨v1, v2, rfl, h0, h1.mono (fun k hk _ => hd k hk) (fun _ h _ => h), h2.mono (fun k hk _ => hd k hk) (fun _ h _ => h)⟩
  bound := fun h => by
    obtain ⟨v1, v2, rfl, h0, h1, h2⟩ := h
    exact ⟨v1, v2, rfl, h0, h1.mono (fun k hk hl => ⟨hk, hl⟩) (fun _ h _ => h), h2.mono (fun k hk hl => ⟨hk, hl⟩) (fun _ h _ => h)⟩
theorem entryW_shut {w : World} {S : Nat → Prop} {r : Entry} {A1 : Option Addr} {n1 c1 : Nat} {A2 : Option Addr} {n2 c2 : Nat} (h0 : ∀ u ∈ r.nums, (Lit.int .i64 u).wf = true) (h1 : Vec ruleK 54 w S (fun _ => False) (.slice A1 n1 c1) r.put) (h2 : Vec (Ty.int .i64) 3 w S (fun _ => False) (.slice A2 n2 c2) r.drop) :
    entryW.K w S r (Array.toList #[.int .i64 r.view, .int .i64 r.client, .int .i64 r.request, .int .i64 r.dflt, .int .i64 r.closed, .int .i64 r.fuel, .int .i64 r.stack, .slice A1 n1 c1, .slice A2 n2 c2]) := ⟨_, _, rfl, h0, h1, h2⟩
section

variable {P : Program} {ops : Array Oper} {rest : List Oper} {o : Oper} {a : Act} {Q : Exit → Act → World → Prop}

/-- append(nil, xs...), and what is made is a row of one's own -/
theorem app_own {α : Type} {d : Ty α} (w : World) (hgd : o.guard = none) (s x : Operand) (t e : TypeId) (z : Value) (bytes : Nat)
    (ho : o.op = .call { callee := .builtin .append, args := #[s, x], argTypes := #[t, t] }) (ht : P.underlying t = some (.slice e))
    (hinfo : (P.info? e).map (fun i => (i.zero, i.size, i.bytes)) = some (some z, d.sz, bytes)) (hzs : z.cells.size = d.sz) (hsz : 0 < d.sz) (hb0 : 0 < bytes)
    (hs : a.eval s = .slice none 0 0) (A : Option Addr) (m c : Nat) {ys : List α} {R : Nat → Prop} (hx : a.eval x = .slice A m c) (hat : Ty.At d w R A m c ys) (hf : Flat d) (hbytes : m * bytes ≤ 140737488355328)
    (h : ∀ A' c' w', Vec d e w' (fun k => w.heap.size ≤ k ∧ k < w'.heap.size) (fun _ => False) (.slice A' m c') ys → Chg (fun _ => False) w w' → wpList P ops Q rest (a.put o.dst (.slice A' m c')) w') :
    wpList P ops Q (o :: rest) a w := by
  obtain ⟨h1, h2, h3, h4, news, h5, h6⟩ := hat
  refine vec_list (d := d) w hgd s x t e z bytes ho ht hinfo hzs hsz hb0 (S := fun _ => False) (D := fun _ => False) (.slice none 0 0) hs (Vec.nil d e w _ _) A m c hx h4 h2 h1 h5 (hf.row h6) (by rw [List.length_nil, Nat.zero_add]; exact hbytes) ?_
  simp only [List.length_nil, Nat.zero_add, List.nil_append]
  intro A' c' w' g1 g2
  exact h A' c' w' (g1.mono (fun k hk hl => ⟨by rcases hk with k1 | k1; exact k1.elim; exact k1, hl⟩) (fun _ h _ => h)) (g2.mono (fun k hk _ => by simp [Value.ownBlock] at hk))
end
def CopiedO (xs : List Entry) (n : Nat) (w : World) (e' : Ending) (w' : World) : Prop :=
  ∃ A' c', e' = .returned (.slice A' n c') ∧ Vec entryW 52 w' (fun k => w.heap.size ≤ k) (fun k => w.heap.size ≤ k) (.slice A' n c') xs ∧ Chg (fun _ => False) w w'
set_option maxHeartbeats 4000000 in
set_option maxRecDepth 100000 in
theorem copied_own {w : World} {R : Nat → Prop} {xs : List Entry} {A : Option Addr} {n c : Nat} (hl : Ty.At entryK w R A n c xs) (hn : n ≤ 1000000) (hput : Fits xs) :
    Calls Try.prog 34 #[.slice A n c] w (CopiedO xs n w) := by
  have HL := hid hl.bound
  have L1 := hid hl.1
  have HPUT := hid hput
  have hn2 : (n : Int) ≤ 1000000 := by omega
  clear hl hput
  go_enter Try.func34, Try.ntmps34
  go_wp2_with fail
  go_loopw [3, 8] (fun sl i wr => ∃ (k : Nat) (A' : Option Addr) (c' : Nat), k ≤ n ∧ i = .int .i64 k ∧ sl = .slice A' k c' ∧ Vec entryW 52 wr (fun k => w.heap.size ≤ k) (fun k => w.heap.size ≤ k) (.slice A' k c') (xs.take k) ∧ Chg (fun _ => False) w wr) (fun _ i _ => n - (intOf i).toNat)
  case atStart => exact ⟨0, none, 0, Nat.zero_le _, rfl, rfl, Vec.nil _ _ _ _ _, Chg.refl _ _⟩
  case round =>
    obtain ⟨k, A', c', hk, rfl, rfl, hV, hC⟩ := hrel
    have HV := hid hV
    have HC := hid hC
    clear hV hC
    by_cases hlt : k < n
    · have hlt2 : (k : Int) < (n : Int) := by omega
      obtain ⟨r, hr⟩ : ∃ r, xs[k]? = some r := ⟨_, List.getElem?_eq_getElem (by have := L1.out; omega)⟩
      have hpl := HPUT.out r (List.mem_of_getElem? hr)
      obtain ⟨a, cs, ha, haR, hK, hcs⟩ := HL.out.get (by decide) hr
      obtain ⟨E1, m1, d1, E2, m2, d2, rfl, hrw⟩ := entry_open (id hK)
      subst ha
      have hcs2 : ∀ j u, (entryCells r E1 m1 d1 E2 m2 d2)[j]? = some u → wr.cell? (a.add (k * 9 + j)) = some u := fun j u hj => HC.out.cell (hcs j u hj) (fun h => h)
      have x0 := elem_cell0 hcs2 _ rfl
      have x1 := elem_cell hcs2 0 _ rfl
      have x2 := elem_cell hcs2 1 _ rfl
      have x3 := elem_cell hcs2 2 _ rfl
      have x4 := elem_cell hcs2 3 _ rfl
      have x5 := elem_cell hcs2 4 _ rfl
      have x6 := elem_cell hcs2 5 _ rfl
      have x7 := elem_cell hcs2 6 _ rfl
      have x8 := elem_cell hcs2 7 _ rfl
      have HRW := hid (hrw.chg HC.out (fun _ _ h => h))
      have HTK := hid (show xs.take (k + 1) = xs.take k ++ [r] by rw [List.take_add_one, hr]; rfl)
      have HKL := hid (show (xs.take k).length = k by rw [List.length_take]; have := L1.out; omega)
      have hm1 : m1 ≤ 1000000 := by have := hrw.2.1.1; omega
      have hm2 : m2 ≤ 1000000 := by have := hrw.2.2.1; omega
      obtain ⟨W1, hW1⟩ : ∃ W1, W1 = wr.alloc (.cells #[.int .i64 r.view, .int .i64 r.client, .int .i64 r.request, .int .i64 r.dflt, .int .i64 r.closed, .int .i64 r.fuel, .int .i64 r.stack, .slice E1 m1 d1, .slice E2 m2 d2] 52) := ⟨_, rfl⟩
      have C1 := hid (show Chg (fun _ => False) wr W1 by rw [hW1]; exact (Chg.refl _ wr).alloc _)
      have B1 := hid (show W1.heap[wr.heap.size]? = some (.cells #[.int .i64 r.view, .int .i64 r.client, .int .i64 r.request, .int .i64 r.dflt, .int .i64 r.closed, .int .i64 r.fuel, .int .i64 r.stack, .slice E1 m1 d1, .slice E2 m2 d2] 52 (0, 0)) by rw [hW1]; exact blk_new wr _)
      have z7 : W1.cell? ⟨wr.heap.size, 7, none⟩ = some (.slice E1 m1 d1) := (cellAt B1.out 7).trans rfl
      clear hcs hK hcs2 hr haR hrw hpl
      go_wp2_with (first
        | ((with_reducible refine at_dst (N := 15) rfl ?_); rw [← hW1]; clear hW1; refine app_own (d := ruleK) _ rfl (.const (.slice none 0 0)) (.tmp 14) 47 54 (.agg #[.int .i64 0, .int .i64 0, .int .i64 0, .int .i64 0, .string ByteArray.empty]) 48 rfl Try.underlying47 infoRuleP rfl (by decide) (by decide) rfl E1 m1 d1 rfl (HRW.out.2.1.chg C1.out (fun _ _ h => h)) flat_rule (by omega) ?_; intro A5 c5 w5 g1 g2; have G1 := hid g1; have G2 := hid g2; have B5 := hid (g2.blk B1.out (fun h => h)); clear g1 g2 z7 x0 x1 x2 x3 x4 x5 x6 x7 x8; have f7 : w5.frozen? ⟨wr.heap.size, 7, none⟩ = false := freeAt B5.out 7; have z7 : w5.cell? ⟨wr.heap.size, 7, none⟩ = some (.slice E1 m1 d1) := (cellAt B5.out 7).trans rfl; have z8 : w5.cell? ⟨wr.heap.size, 8, none⟩ = some (.slice E2 m2 d2) := (cellAt B5.out 8).trans rfl)
        | ((with_reducible refine at_dst (N := 21) rfl ?_); obtain ⟨W5, hW5⟩ : ∃ W5, W5 = w5.setCell ⟨wr.heap.size, 7, none⟩ (.slice A5 m1 c5) := ⟨_, rfl⟩; rw [← hW5]; have B6 := hid (show W5.heap[wr.heap.size]? = some (.cells #[.int .i64 r.view, .int .i64 r.client, .int .i64 r.request, .int .i64 r.dflt, .int .i64 r.closed, .int .i64 r.fuel, .int .i64 r.stack, .slice A5 m1 c5, .slice E2 m2 d2] 52 (0, 0)) by rw [hW5]; exact blk_set B5.out 7 _); have S5 := hid (show Chg (fun k => k = wr.heap.size) w5 W5 by rw [hW5]; exact (Chg.refl (fun k => k = wr.heap.size) w5).set (fun _ => rfl) _); have CC5 := hid (show Chg (fun _ => False) wr W5 from ((C1.out.trans G2.out (fun _ h _ => h)).trans (S := fun _ => False) S5.out (fun k hk hl => by subst hk; exact Nat.lt_irrefl _ hl))); clear hW5 f7 z7 z8; refine app_own (d := Ty.int .i64) _ rfl (.const (.slice none 0 0)) (.tmp 20) 48 3 (.int .i64 0) 8 rfl Try.underlying48 infoInt rfl (by decide) (by decide) rfl E2 m2 d2 rfl (HRW.out.2.2.chg CC5.out (fun _ _ h => h)) (flat_int _) (by omega) ?_; intro A6 c6 w6 g1 g2; have G3 := hid g1; have G4 := hid g2; have B7 := hid (g2.blk B6.out (fun h => h)); clear g1 g2; have f8 : w6.frozen? ⟨wr.heap.size, 8, none⟩ = false := freeAt B7.out 8; have z8 : w6.cell? ⟨wr.heap.size, 8, none⟩ = some (.slice E2 m2 d2) := (cellAt B7.out 8).trans rfl)
        | ((with_reducible refine at_dst (N := 25) rfl ?_); obtain ⟨W6, hW6⟩ : ∃ W6, W6 = w6.setCell ⟨wr.heap.size, 8, none⟩ (.slice A6 m2 c6) := ⟨_, rfl⟩; rw [← hW6]; have B8 := hid (show W6.heap[wr.heap.size]? = some (.cells #[.int .i64 r.view, .int .i64 r.client, .int .i64 r.request, .int .i64 r.dflt, .int .i64 r.closed, .int .i64 r.fuel, .int .i64 r.stack, .slice A5 m1 c5, .slice A6 m2 c6] 52 (0, 0)) by rw [hW6]; exact blk_set B7.out 8 _); have S6 := hid (show Chg (fun k => k = wr.heap.size) w6 W6 by rw [hW6]; exact (Chg.refl (fun k => k = wr.heap.size) w6).set (fun _ => rfl) _); have CC := hid (show Chg (fun _ => False) wr W6 from ((CC5.out.trans G4.out (fun _ h _ => h)).trans (S := fun _ => False) S6.out (fun k hk hl => by subst hk; exact Nat.lt_irrefl _ hl))); clear hW6 f8 z8; have lt1 := lt_of_blk B1.out; have lt5 := lt_of_blk B6.out; have PUT := hid (show ∀ w', Chg (fun _ => False) W6 w' → Vec ruleK 54 w' (fun k' => w.heap.size ≤ k' ∧ (Value.slice A' k c').ownBlock ≠ some k' ∧ k' < w'.heap.size) (fun _ => False) (.slice A5 m1 c5) r.put from fun w' hc => ((((G1.out.chg S5.out (fun j hj e => by have h1 := G1.out.inS j hj; have := h1.1; omega) (fun _ h => h.elim)).chg G4.out (fun _ _ h => h) (fun _ h => h.elim)).chg S6.out (fun j hj e => by have h1 := G1.out.inS j hj; have := h1.1; omega) (fun _ h => h.elim)).chg hc (fun _ _ h => h) (fun _ h => h.elim)).mono (fun j hj hl => ⟨by have q1 := hj.1; have q2 := HC.out.size; omega, fun e => by have q1 := hj.1; have q2 := HV.out.lt j e; omega, hl⟩) (fun _ h _ => h)); have DRP := hid (show ∀ w', Chg (fun _ => False) W6 w' → Vec (Ty.int .i64) 3 w' (fun k' => w.heap.size ≤ k' ∧ (Value.slice A' k c').ownBlock ≠ some k' ∧ k' < w'.heap.size) (fun _ => False) (.slice A6 m2 c6) r.drop from fun w' hc => ((G3.out.chg S6.out (fun j hj e => by have h1 := G3.out.inS j hj; have := h1.1; omega) (fun _ h => h.elim)).chg hc (fun _ _ h => h) (fun _ h => h.elim)).mono (fun j hj hl => ⟨by have q1 := hj.1; have q2 := HC.out.size; omega, fun e => by have q1 := hj.1; have q2 := HV.out.lt j e; omega, hl⟩) (fun _ h _ => h)); clear lt1 lt5; have y0 : W6.cell? ⟨wr.heap.size, 0, none⟩ = some (.int .i64 r.view) := (cellAt B8.out 0).trans rfl; have y1 : W6.cell? ⟨wr.heap.size, 1, none⟩ = some (.int .i64 r.client) := (cellAt B8.out 1).trans rfl; have y2 : W6.cell? ⟨wr.heap.size, 2, none⟩ = some (.int .i64 r.request) := (cellAt B8.out 2).trans rfl; have y3 : W6.cell? ⟨wr.heap.size, 3, none⟩ = some (.int .i64 r.dflt) := (cellAt B8.out 3).trans rfl; have y4 : W6.cell? ⟨wr.heap.size, 4, none⟩ = some (.int .i64 r.closed) := (cellAt B8.out 4).trans rfl; have y5 : W6.cell? ⟨wr.heap.size, 5, none⟩ = some (.int .i64 r.fuel) := (cellAt B8.out 5).trans rfl; have y6 : W6.cell? ⟨wr.heap.size, 6, none⟩ = some (.int .i64 r.stack) := (cellAt B8.out 6).trans rfl; have y7 : W6.cell? ⟨wr.heap.size, 7, none⟩ = some (.slice A5 m1 c5) := (cellAt B8.out 7).trans rfl; have y8 : W6.cell? ⟨wr.heap.size, 8, none⟩ = some (.slice A6 m2 c6) := (cellAt B8.out 8).trans rfl)
        | ((with_reducible refine at_dst (N := 27) rfl ?_); clear y0 y1 y2 y3 y4 y5 y6 y7 y8; refine vec_list (d := entryW) _ rfl (.tmp 24) (.tmp 26) 30 52 (.agg #[.int .i64 0, .int .i64 0, .int .i64 0, .int .i64 0, .int .i64 0, .int .i64 0, .int .i64 0, .slice none 0 0, .slice none 0 0]) 104 rfl Try.underlying30 infoEntryP rfl (by decide) (by decide) (.slice A' k c') rfl ((HV.out.chg CC.out (fun _ _ h => h) (fun _ _ _ _ h => h)).chg ((Chg.refl (fun _ => False) W6).alloc (.cells #[.int .i64 r.view, .int .i64 r.client, .int .i64 r.request, .int .i64 r.dflt, .int .i64 r.closed, .int .i64 r.fuel, .int .i64 r.stack, .slice A5 m1 c5, .slice A6 m2 c6] 52)) (fun _ _ h => h) (fun _ _ _ _ h => h)) (some ⟨W6.heap.size, 0, none⟩) 1 1 (ys := [r]) rfl (by simp) (by omega) rfl (new_sees W6 #[.int .i64 r.view, .int .i64 r.client, .int .i64 r.request, .int .i64 r.dflt, .int .i64 r.closed, .int .i64 r.fuel, .int .i64 r.stack, .slice A5 m1 c5, .slice A6 m2 c6] 52) (Ty.Row.one_ (entryW_shut HRW.out.1 (PUT.out _ ((Chg.refl (fun _ => False) W6).alloc _)) (DRP.out _ ((Chg.refl (fun _ => False) W6).alloc _)))) (by rw [HKL.out]; omega) ?_; rw [HKL.out, ← HTK.out]; intro A7 c7 w7 h1 h2; have HVN := hid (h1.mono (S' := fun k => w.heap.size ≤ k) (D' := fun k => w.heap.size ≤ k) (fun j h _ => by rcases h with h | h; exact h; exact Nat.le_trans (Nat.le_trans HC.out.size CC.out.size) (Nat.le_trans ((Chg.refl (fun _ => False) W6).alloc _).size h)) (fun _ h _ => h)); have HCN := hid (show Chg (fun _ => False) w w7 from (((HC.out.trans CC.out (fun _ h _ => h)).alloc _).trans h2 (fun j hj hl => by have := HV.out.inS j hj; omega))); clear h1 h2))
      go_roundw
      case measure => simp [intOf]; omega
      case rel => first | exact ⟨k + 1, A7, c7, hlt, by go_num, rfl, HVN.out, HCN.out⟩ | ((repeat apply Exists.intro); exact ⟨⟨k + 1, A7, c7, hlt, by go_num, rfl, HVN.out, HCN.out⟩, rfl⟩)
    · have hkn : ¬ (k : Int) < (n : Int) := by omega
      obtain rfl : k = n := by omega
      go_wp2_with fail
      go_ret
      have hv := HV.out
      rw [List.take_of_length_le (by have := L1.out; omega)] at hv
      exact ⟨A', c', rfl, hv, HC.out⟩
end Go.Proofs.Ytfpjickdkkhndaa.Pa


/- Small words of the laws of ledgers: what a tape holds that only a ledger has written. -/

namespace Go.Proofs.Ytfpjickdkkhndaa.Pa

set_option linter.unusedVariables false

set_option linter.unusedSimpArgs false

open Go.RowKit Go.Proofs.Ytfpjickdkkhndaa.C

attribute [local go_sem] max2_int min2_int max_two min_two

open Go.Proofs.Ytfpjickdkkhndaa.T
theorem calm_ok {b : List UInt8} {s r : Int} (h0 : 0 ≤ s) (h1 : s ≤ b.length) (h2 : (b.length : Int) ≤ r) (h3 : r ≤ 1048576) : (calm b s r).Ok := ⟨h0, h1, h2, h3, by show (-1 : Int) ≤ -1; decide, by show (-1 : Int) ≤ 9223372036854775807; decide⟩
/-- A tape that holds just the records that lead to s, all safe. -/
def Kept (t : TS) (s : St) : Prop := ∃ Ls : List Rec, t = calm (framesB Ls) (framesB Ls).length 1048576 ∧ ((framesB Ls).length : Int) ≤ 1048576 ∧ (∀ r ∈ Ls, recR r = true) ∧ applyAll st0 Ls = some s ∧ stR s = true
theorem kept0 : Kept (calm [] 0 1048576) st0 := ⟨[], rfl, by decide, fun r h => (by cases h), rfl, stR0⟩
theorem Kept.ok {t : TS} {s : St} (h : Kept t s) : t.Ok := by
  obtain ⟨Ls, rfl, h1, _⟩ := h
  exact calm_ok (by omega) (by omega) h1 (by decide)
theorem Kept.opens {t : TS} {s : St} (h : Kept t s) : openT t = (t, 0) ∧ rd13 st0 t.b = (s, t.b.length) := by
  obtain ⟨Ls, rfl, h1, h2, h3, _⟩ := h
  have h4 := rd13_frames Ls st0 s [] (fun r hr => ⟨h2 r hr, by have := recB_most_ (h2 r hr); omega⟩) h3
  rw [List.append_nil, rd13_nil] at h4
  have h5 : rd13 st0 (calm (framesB Ls) (framesB Ls).length 1048576).b = (s, (framesB Ls).length) := h4
  refine ⟨?_, h5⟩
  unfold openT
  rw [h5, if_neg (by show ¬ (framesB Ls).length < (framesB Ls).length; omega)]
theorem Kept.right {t : TS} {s : St} (h : Kept t s) : stR s = true := by
  obtain ⟨_, _, _, _, _, h⟩ := h
  exact h
theorem Kept.safe {t : TS} {s : St} (h : Kept t s) : t.safe = t.b.length := by
  obtain ⟨Ls, rfl, _⟩ := h
  rfl
theorem Kept.room {t : TS} {s : St} (h : Kept t s) : t.b.length ≤ 1048576 := by
  obtain ⟨Ls, rfl, h1, _⟩ := h
  show (framesB Ls).length ≤ 1048576
  omega
/-- Saving keeps to that. -/
theorem Kept.save {t : TS} {s : St} (h : Kept t s) (br : Bool) (s2 : St) :
    Kept (saveT t s br s2).1 (saveT t s br s2).2.1 ∧ ((saveT t s br s2).2.2.2 = 0 → (saveT t s br s2).2.1 = s2 ∧ (saveT t s br s2).2.2.1 = false) ∧ ((saveT t s br s2).2.2.2 ≠ 0 → (saveT t s br s2).2.1 = s) := by
  have hk := h
  obtain ⟨Ls, rfl, h1, h2, h3, h4⟩ := h
  unfold saveT
  cases br
  case true => exact ⟨hk, fun h => (by cases h), fun _ => rfl⟩
  rw [if_neg (by decide)]
  by_cases hb : (betweenS s s2).2 = 0
  case neg =>
    rw [if_pos (.inl hb)]
    exact ⟨hk, fun h => absurd h hb, fun _ => rfl⟩
  obtain ⟨_, q2, q3, q4⟩ := between_ok hb
  by_cases hn : (betweenS s s2).1 = []
  case pos =>
    rw [if_pos (.inr hn)]
    rw [q3] at hn
    rw [hn] at q4
    have e : s = s2 := by injection q4
    exact ⟨hk, fun _ => ⟨e, rfl⟩, fun h => absurd hb h⟩
  rw [if_neg (by rintro (h | h); exact h hb; exact hn h), q3]
  by_cases hr : ((framesB (recordsS s s2)).length : Int) ≤ 1048576 - ((framesB Ls).length : Int)
  · rw [append_calm hr, if_neg (fun h => h rfl), sync_calm, if_neg (fun h => h rfl)]
    have e : framesB Ls ++ framesB (recordsS s s2) = framesB (Ls ++ recordsS s s2) := (framesB_append _ _).symm
    refine ⟨⟨Ls ++ recordsS s s2, by rw [← e], by rw [← e, List.length_append]; omega, fun r hr' => ?_, by rw [applyAll_append, h3]; exact q4, q2⟩, fun _ => ⟨rfl, rfl⟩, fun h => absurd rfl h⟩
    rcases List.mem_append.1 hr' with h | h
    · exact h2 r h
    · exact recordsS_right h4 q2 r h
  · rw [append_full (by omega), if_pos (by show (41 : Int) ≠ 0; decide)]
    exact ⟨hk, fun h => (by cases h), fun _ => rfl⟩
/-- The first state that is saved is taken, if it is right. -/
theorem save_first {s2 : St} (h : stR s2 = true) : (saveT (calm [] 0 1048576) st0 false s2).2.2.2 = 0 := by
  have hl := records_lead stR0 h
  have h1 := (stR_iff.1 h).1
  rw [if_pos ⟨by show (0 : Int) ≤ s2.view; omega, by show (0 : Int) ≤ s2.normal; omega, fun hc => by simp [st0] at hc, by show (0 : Int) ≤ s2.commit; omega⟩] at hl
  have hb : betweenS st0 s2 = (recordsS st0 s2, 0) := by unfold betweenS; rw [stR0, h, hl]; rfl
  have hm := framesB_most (recordsS_right stR0 h)
  have hf := recordsS_few (a := st0) h
  have hm2 : 6110 * (recordsS st0 s2).length ≤ 6110 * 70 := Nat.mul_le_mul_left _ hf
  unfold saveT
  rw [if_neg (by decide), hb]
  by_cases hn : recordsS st0 s2 = []
  · rw [if_pos (.inr hn)]
  · rw [if_neg (by rintro (h | h); exact h rfl; exact hn h), append_calm (by simp; omega), if_neg (fun h => h rfl), List.nil_append, sync_calm, if_neg (fun h => h rfl)]
theorem LedAt.bound {w : World} {S : Nat → Prop} {p g : Nat} {v : Value} {t : TS} {s : St} {br : Bool} {A : Option Addr} {n c : Nat} (h : LedAt w S p g v t s br A n c) : LedAt w (fun k => S k ∧ k < w.heap.size) p g v t s br A n c := h.mono (fun k hk hs => ⟨hs, hk⟩)
def OpenKept (g : Nat) (v : Value) (t : TS) (s : St) (w : World) (e' : Ending) (w' : World) : Prop :=
  ∃ p v' A' n' c' S', e' = .returned (.tuple #[.pointer (some ⟨p, 0, none⟩), .int .i64 0]) ∧ LedAt w' S' p g v' t s false A' n' c' ∧ (∀ k, S' k → (k = g ∨ v.ownBlock = some k) ∨ (w.heap.size ≤ k ∧ k < w'.heap.size)) ∧ Chg (fun k => k = g ∨ v.ownBlock = some k) w w'
theorem open_kept {w : World} {S : Nat → Prop} {g : Nat} {v : Value} {t : TS} {s : St} (h : TapeAt w S g v t) (hk : Kept t s) :
    Calls Try.prog 10 #[.pointer (some ⟨g, 0, none⟩)] w (OpenKept g v t s w) := by
  refine (Open_any (tape_core h) hk.ok).mono ?_
  intro e w' ho
  obtain ⟨h1, h2⟩ := hk.opens
  rcases ho with ⟨hne, _⟩ | ⟨_, v', A', n', c', rfl, hle, hc⟩
  · rw [h1] at hne; exact absurd rfl hne
  rw [h1, h2] at hle
  exact ⟨_, v', A', n', c', _, rfl, hle.bound, fun k hk => by rcases hk.1 with q | q; exact .inl q.1; exact .inr ⟨q, hk.2⟩, hc⟩
def SaveKept (S : Nat → Prop) (p g : Nat) (s s2 : St) (code : Int) (w : World) (e' : Ending) (w' : World) : Prop :=
  ∃ v' A' n' c' S' t' s' br', e' = .returned (.int .i64 code) ∧ LedAt w' S' p g v' t' s' br' A' n' c' ∧ Kept t' s' ∧ (code = 0 → s' = s2 ∧ br' = false) ∧ (code ≠ 0 → s' = s) ∧ (∀ k, S' k → S k ∨ (w.heap.size ≤ k ∧ k < w'.heap.size)) ∧ Chg S w w'
theorem save_kept {w : World} {S : Nat → Prop} {p g : Nat} {v : Value} {t : TS} {s : St} {br : Bool} {A : Option Addr} {n c : Nat} {R2 : Nat → Prop} {s2 : St} {B : Option Addr} {k d : Nat} (h : LedAt w S p g v t s br A n c) (hk : Kept t s) (h2 : Ty.At entryK w R2 B k d s2.log) (hR2 : ∀ j, R2 j → ¬ S j) :
    Calls Try.prog 13 #[.pointer (some ⟨p, 0, none⟩), .agg #[.int .i64 s2.view, .int .i64 s2.normal, .int .i64 s2.commit, .int .i64 s2.active, .slice B k d]] w (SaveKept S p g s s2 (saveT t s br s2).2.2.2 w) := by
  refine (Save_any h hk.ok h2 hR2).mono ?_
  rintro e w' ⟨rfl, v', A', n', c', hle, hc⟩
  obtain ⟨q1, q2, q3⟩ := hk.save br s2
  exact ⟨v', A', n', c', _, _, _, _, rfl, hle.bound, q1, q2, q3, fun k hk => by rcases hk.1 with q | q; exact .inl q; exact .inr ⟨q, hk.2⟩, hc⟩
end Go.Proofs.Ytfpjickdkkhndaa.Pa


/- State, once more, and the shape of what is told: rows of one's own, through any stores into them. -/

namespace Go.Proofs.Ytfpjickdkkhndaa.Pa

set_option linter.unusedVariables false

set_option linter.unusedSimpArgs false

open Go.RowKit Go.Proofs.Ytfpjickdkkhndaa.C

attribute [local go_sem] max2_int min2_int max_two min_two

def StateO (s : St) (w : World) (e' : Ending) (w' : World) : Prop :=
  ∃ A' n' c', e' = .returned (.agg #[.int .i64 s.view, .int .i64 s.normal, .int .i64 s.commit, .int .i64 s.active, .slice A' n' c']) ∧ Vec entryW 52 w' (fun k => w.heap.size ≤ k) (fun k => w.heap.size ≤ k) (.slice A' n' c') s.log ∧ Chg (fun _ => False) w w'
set_option maxHeartbeats 4000000 in
set_option maxRecDepth 100000 in
theorem State_own {w : World} {S : Nat → Prop} {p g : Nat} {v : Value} {T : T.TS} {s : St} {br : Bool} {A : Option Addr} {n c : Nat} (h : LedAt w S p g v T s br A n c) :
    Calls Try.prog 11 #[.pointer (some ⟨p, 0, none⟩)] w (StateO s w) := by
  obtain ⟨b2, hb2⟩ : ∃ q_, q_ = w.heap.size + 1 := ⟨_, rfl⟩
  obtain ⟨w0, hw0⟩ : ∃ q_, q_ = ((w.alloc (.cells #[.int .i64 0, .int .i64 0, .int .i64 0, .int .i64 0, .slice none 0 0] 32)).alloc (.cells #[.int .i64 s.view, .int .i64 s.normal, .int .i64 s.commit, .int .i64 s.active, .slice A n c] 32)) := ⟨_, rfl⟩
  have C0 := hid (show Chg (fun _ => False) w w0 by rw [hw0]; exact ((Chg.refl _ w).alloc _).alloc _)
  have BR := hid (show w0.heap[w.heap.size]? = some (.cells #[.int .i64 0, .int .i64 0, .int .i64 0, .int .i64 0, .slice none 0 0] 32 (0, 0)) by
    rw [hw0]
    refine blk_alloc ?_ _
    have := blk_new w (.cells #[.int .i64 0, .int .i64 0, .int .i64 0, .int .i64 0, .slice none 0 0] 32)
    simpa using this)
  have BS := hid (show w0.heap[b2]? = some (.cells #[.int .i64 s.view, .int .i64 s.normal, .int .i64 s.commit, .int .i64 s.active, .slice A n c] 32 (0, 0)) by
    rw [hw0, hb2]
    have := blk_new (w.alloc (.cells #[.int .i64 0, .int .i64 0, .int .i64 0, .int .i64 0, .slice none 0 0] 32)) (.cells #[.int .i64 s.view, .int .i64 s.normal, .int .i64 s.commit, .int .i64 s.active, .slice A n c] 32)
    simpa using this)
  have ne01 : w.heap.size ≠ b2 := by omega
  have ne10 : b2 ≠ w.heap.size := by omega
  have Hb2 := hid hb2
  have ltb2 : w.heap.size < b2 := by omega
  have SZ := hid (show w0.heap.size = w.heap.size + 2 by rw [hw0]; simp)
  have HP := hid (C0.out.blk h.blk (fun h => h))
  have HL := hid (h.log.chg C0.out (fun _ _ h => h))
  have HS := hid h.right
  have hpw := lt_of_blk h.blk
  have hp1 : p ≠ w.heap.size := by omega
  have hp2 : p ≠ b2 := by omega
  have P_1 : w.cell? ⟨p, 1, none⟩ = some (.int .i64 s.view) := (cellAt h.blk 1).trans rfl
  have P_2 : w.cell? ⟨p, 2, none⟩ = some (.int .i64 s.normal) := (cellAt h.blk 2).trans rfl
  have P_3 : w.cell? ⟨p, 3, none⟩ = some (.int .i64 s.commit) := (cellAt h.blk 3).trans rfl
  have P_4 : w.cell? ⟨p, 4, none⟩ = some (.int .i64 s.active) := (cellAt h.blk 4).trans rfl
  have P_5 : w.cell? ⟨p, 5, none⟩ = some (.slice A n c) := (cellAt h.blk 5).trans rfl
  clear h
  go_enter Try.func11, Try.ntmps11
  go_wp2_with fail
  rw [← hb2, ← hw0]
  clear hw0 hb2
  clear P_1 P_2 P_3 P_4 P_5
  refine (copied_own HL.out (by have h1 := (stR_iff.1 HS.out).1; have h2 := HL.out.1; omega) (fits_right (stR_iff.1 HS.out).2)).mono ?_
  rintro e w2 ⟨A2, c2, rfl, hat, h2⟩
  have C2 := hid (C0.out.trans h2 (fun _ h _ => h))
  have H2 := hid hat
  have Z2 := hid (show w0.heap.size ≤ w2.heap.size from h2.size)
  replace BR := hid ((h2).blk BR.out (fun h => h))
  replace BS := hid ((h2).blk BS.out (fun h => h))
  clear h2 hat
  have S_0 : w2.cell? ⟨b2, 0, none⟩ = some (.int .i64 s.view) := (cellAt BS.out 0).trans rfl
  have S_f0 : w2.frozen? ⟨b2, 0, none⟩ = false := freeAt BS.out 0
  have S_1 : w2.cell? ⟨b2, 1, none⟩ = some (.int .i64 s.normal) := (cellAt BS.out 1).trans rfl
  have S_f1 : w2.frozen? ⟨b2, 1, none⟩ = false := freeAt BS.out 1
  have S_2 : w2.cell? ⟨b2, 2, none⟩ = some (.int .i64 s.commit) := (cellAt BS.out 2).trans rfl
  have S_f2 : w2.frozen? ⟨b2, 2, none⟩ = false := freeAt BS.out 2
  have S_3 : w2.cell? ⟨b2, 3, none⟩ = some (.int .i64 s.active) := (cellAt BS.out 3).trans rfl
  have S_f3 : w2.frozen? ⟨b2, 3, none⟩ = false := freeAt BS.out 3
  have S_4 : w2.cell? ⟨b2, 4, none⟩ = some (.slice A n c) := (cellAt BS.out 4).trans rfl
  have S_f4 : w2.frozen? ⟨b2, 4, none⟩ = false := freeAt BS.out 4
  have R_0 : w2.cell? ⟨w.heap.size, 0, none⟩ = some (.int .i64 0) := (cellAt BR.out 0).trans rfl
  have R_f0 : w2.frozen? ⟨w.heap.size, 0, none⟩ = false := freeAt BR.out 0
  have R_1 : w2.cell? ⟨w.heap.size, 1, none⟩ = some (.int .i64 0) := (cellAt BR.out 1).trans rfl
  have R_f1 : w2.frozen? ⟨w.heap.size, 1, none⟩ = false := freeAt BR.out 1
  have R_2 : w2.cell? ⟨w.heap.size, 2, none⟩ = some (.int .i64 0) := (cellAt BR.out 2).trans rfl
  have R_f2 : w2.frozen? ⟨w.heap.size, 2, none⟩ = false := freeAt BR.out 2
  have R_3 : w2.cell? ⟨w.heap.size, 3, none⟩ = some (.int .i64 0) := (cellAt BR.out 3).trans rfl
  have R_f3 : w2.frozen? ⟨w.heap.size, 3, none⟩ = false := freeAt BR.out 3
  have R_4 : w2.cell? ⟨w.heap.size, 4, none⟩ = some (.slice none 0 0) := (cellAt BR.out 4).trans rfl
  have R_f4 : w2.frozen? ⟨w.heap.size, 4, none⟩ = false := freeAt BR.out 4
  obtain ⟨W2, hW2⟩ : ∃ W2, W2 = w2.setCell ⟨b2, 4, none⟩ (.slice A2 n c2) := ⟨_, rfl⟩
  have D2 := hid (show Chg (fun k => k = b2) w2 W2 by rw [hW2]; exact (Chg.refl (fun k => k = b2) w2).set (fun _ => rfl) _)
  have HW2 := hid hW2
  clear hW2
  go_wp2_with fail
  rw [← HW2.out]
  clear HW2
  clear S_0 S_f0 S_1 S_f1 S_2 S_f2 S_3 S_f3 S_4 S_f4 R_0 R_f0 R_1 R_f1 R_2 R_f2 R_3 R_f3 R_4 R_f4
  replace BR := hid (D2.out.blk BR.out (by omega))
  obtain ⟨PB, PC⟩ := put_blk [(.int .i64 s.view : Value), .int .i64 s.normal, .int .i64 s.commit, .int .i64 s.active, .slice A2 n c2] W2 _ BR.out rfl
  generalize hW : (((((W2.setCell ⟨w.heap.size, 0, none⟩ (.int .i64 s.view)).setCell ⟨w.heap.size, 1, none⟩ (.int .i64 s.normal)).setCell ⟨w.heap.size, 2, none⟩ (.int .i64 s.commit)).setCell ⟨w.heap.size, 3, none⟩ (.int .i64 s.active)).setCell ⟨w.heap.size, 4, none⟩ (.slice A2 n c2)) = W
  have BR2 := hid (show W.heap[w.heap.size]? = some (.cells #[.int .i64 s.view, .int .i64 s.normal, .int .i64 s.commit, .int .i64 s.active, .slice A2 n c2] 32 (0, 0)) by rw [← hW]; exact PB)
  have CW := hid (show Chg (fun k => k = w.heap.size) W2 W by rw [← hW]; exact PC)
  clear PB PC hW
  have z0 : W.cell? ⟨w.heap.size, 0, none⟩ = some (.int .i64 s.view) := (cellAt BR2.out 0).trans rfl
  have z1 : W.cell? ⟨w.heap.size, 1, none⟩ = some (.int .i64 s.normal) := (cellAt BR2.out 1).trans rfl
  have z2 : W.cell? ⟨w.heap.size, 2, none⟩ = some (.int .i64 s.commit) := (cellAt BR2.out 2).trans rfl
  have z3 : W.cell? ⟨w.heap.size, 3, none⟩ = some (.int .i64 s.active) := (cellAt BR2.out 3).trans rfl
  have z4 : W.cell? ⟨w.heap.size, 4, none⟩ = some (.slice A2 n c2) := (cellAt BR2.out 4).trans rfl
  refine bodyPost_ret (v := .agg #[.int .i64 s.view, .int .i64 s.normal, .int .i64 s.commit, .int .i64 s.active, .slice A2 n c2]) (by simp [results, Try.results11, go_sem, z0, z1, z2, z3, z4]) rfl ?_
  have z := SZ.out
  have z2 := Z2.out
  have hb := Hb2.out
  have HE := ((H2.out.chg D2.out (fun j hj e => by have := H2.out.inS j hj; omega) (fun j hj _ _ e => by omega)).chg CW.out (fun j hj e => by have := H2.out.inS j hj; omega) (fun j hj _ _ e => by omega)).mono (S' := fun k => w.heap.size ≤ k) (D' := fun k => w.heap.size ≤ k) (fun j hj _ => by omega) (fun j hj _ => by omega)
  exact ⟨A2, n, c2, rfl, HE, (C2.out.trans D2.out (fun j hj hl => by have := Hb2.out; omega)).trans CW.out (fun j hj hl => by omega)⟩

/-- Some row of one's own. -/
def RowS (w : World) (S : Nat → Prop) (e : TypeId) (sz : Nat) (v : Value) (n : Nat) : Prop := ∃ xs, w.ownsRow 0 e sz v n xs ∧ ∀ k, v.ownBlock = some k → S k
theorem RowS.set {w : World} {S : Nat → Prop} {e : TypeId} {sz : Nat} {v : Value} {n : Nat} (h : RowS w S e sz v n) (b o : Nat) (u : Value) : RowS (w.setCell ⟨b, o, none⟩ u) S e sz v n := by
  obtain ⟨xs, ⟨h1, h2⟩, hS⟩ := h
  rcases h2 with h2 | ⟨g, cap, cur, hv, hg, hh, hn, hm, hc, ht⟩
  · exact ⟨xs, ⟨h1, .inl h2⟩, hS⟩
  by_cases e : b = g
  · subst e
    refine ⟨(cur.setIfInBounds o u).toList.take (n * sz), ⟨?_, .inr ⟨b, cap, _, hv, hg, blk_set hh o u, hn, hm, by simpa using hc, rfl⟩⟩, hS⟩
    rw [List.length_take]
    have h3 : n * sz ≤ cap * sz := Nat.mul_le_mul_right _ hn
    simp
    omega
  · exact ⟨xs, ⟨h1, .inr ⟨g, cap, cur, hv, hg, blk_far hh (p := ⟨b, o, none⟩) (Ne.symm e) u, hn, hm, hc, ht⟩⟩, hS⟩
theorem RowS.drew {w : World} {S : Nat → Prop} {e : TypeId} {sz : Nat} {v : Value} {n : Nat} (h : RowS w S e sz v n) : RowS w.drew S e sz v n := h
/-- Where an element of it lies. -/
theorem RowS.at {w : World} {S : Nat → Prop} {e : TypeId} {sz : Nat} {A : Option Addr} {n c : Nat} (h : RowS w S e sz (.slice A n c) n) {i : Nat} (hi : i < n) :
    ∃ g, A = some ⟨g, 0, none⟩ ∧ S g ∧ (∃ cs, w.heap[g]? = some (.cells cs e (0, 0))) ∧ ∀ j, j < sz → ∃ u, w.cell? ⟨g, i * sz + j, none⟩ = some u ∧ w.frozen? ⟨g, i * sz + j, none⟩ = false := by
  obtain ⟨xs, ho, hS⟩ := h
  obtain ⟨g, hA, _⟩ := own_form ho (by omega)
  subst hA
  obtain ⟨cur, hc⟩ := own_type ho g rfl
  refine ⟨g, rfl, hS g rfl, ⟨cur, hc⟩, fun j hj => ?_⟩
  have h1 : i * sz + j < n * sz := by
    have : (i + 1) * sz ≤ n * sz := Nat.mul_le_mul_right _ hi
    rw [Nat.add_mul, Nat.one_mul] at this
    omega
  have h2 := ho.1
  refine ⟨xs[i * sz + j], ?_, ho.frozenAt _⟩
  rw [ho.cellAt _ h1]
  exact List.getElem?_eq_getElem (by omega)
/-- The shape of entries that were told: each has its rules and numbers in rows of one's own. -/
def LogS (w : World) (S : Nat → Prop) (v : Value) (n : Nat) : Prop :=
  ∃ cells, w.ownsRow 0 52 9 v n cells ∧ (∀ k, v.ownBlock = some k → S k) ∧ ∀ i, i < n → ∃ A1 n1 c1 A2 n2 c2, cells[i * 9 + 7]? = some (.slice A1 n1 c1) ∧ cells[i * 9 + 8]? = some (.slice A2 n2 c2) ∧ RowS w S 54 5 (.slice A1 n1 c1) n1 ∧ RowS w S 3 1 (.slice A2 n2 c2) n2
theorem LogS.row {w : World} {S : Nat → Prop} {v : Value} {n : Nat} (h : LogS w S v n) : RowS w S 52 9 v n := by
  obtain ⟨cells, h1, h2, _⟩ := h
  exact ⟨cells, h1, h2⟩
/-- A store into a block that holds no entries. -/
theorem LogS.far {w : World} {S : Nat → Prop} {v : Value} {n : Nat} (h : LogS w S v n) {b t : Nat} {cs : Array Value} (hb : w.heap[b]? = some (.cells cs t (0, 0))) (ht : 52 ≠ t) (o : Nat) (u : Value) : LogS (w.setCell ⟨b, o, none⟩ u) S v n := by
  obtain ⟨cells, h1, h2, h3⟩ := h
  have hne := own_ne h1 hb ht
  have hc : Chg (fun k => k = b) w (w.setCell ⟨b, o, none⟩ u) := (Chg.refl (fun k => k = b) w).set (fun _ => rfl) u
  refine ⟨cells, hc.own h1 (fun k hk e => hne (e ▸ hk)), h2, fun i hi => ?_⟩
  obtain ⟨A1, n1, c1, A2, n2, c2, q1, q2, q3, q4⟩ := h3 i hi
  exact ⟨A1, n1, c1, A2, n2, c2, q1, q2, q3.set b o u, q4.set b o u⟩
/-- A store into an entry's second number. -/
theorem LogS.own {w : World} {S : Nat → Prop} {g n c : Nat} (h : LogS w S (.slice (some ⟨g, 0, none⟩) n c) n) {i : Nat} (u : Value) : LogS (w.setCell ⟨g, i * 9 + 1, none⟩ u) S (.slice (some ⟨g, 0, none⟩) n c) n := by
  obtain ⟨cells, h1, h2, h3⟩ := h
  refine ⟨cells.set (i * 9 + 1) u, (h1.stored (i * 9 + 1) u).1, h2, fun j hj => ?_⟩
  obtain ⟨A1, n1, c1, A2, n2, c2, q1, q2, q3, q4⟩ := h3 j hj
  exact ⟨A1, n1, c1, A2, n2, c2, by rw [List.getElem?_set_ne (by omega)]; exact q1, by rw [List.getElem?_set_ne (by omega)]; exact q2, q3.set _ _ u, q4.set _ _ u⟩
theorem RowS.le {w : World} {S : Nat → Prop} {e : TypeId} {sz : Nat} {v : Value} {n : Nat} (h : RowS w S e sz v n) : n < 9223372036854775808 := by
  obtain ⟨xs, ⟨_, h2⟩, _⟩ := h
  rcases h2 with h2 | ⟨g, cap, cur, hv, hg, hh, hn, hm, hc, ht⟩
  · omega
  · have : cap ≤ 2 ^ 63 - 1 := hm
    omega
/-- Within an entry: its two rows. -/
def InS (w : World) (S : Nat → Prop) (g q n c : Nat) (v1 : Value) (m1 : Nat) (v2 : Value) (m2 : Nat) : Prop :=
  LogS w S (.slice (some ⟨g, 0, none⟩) n c) n ∧ w.cell? ⟨g, q * 9 + 3 + 4, none⟩ = some v1 ∧ w.cell? ⟨g, q * 9 + 3 + 5, none⟩ = some v2 ∧ RowS w S 54 5 v1 m1 ∧ RowS w S 3 1 v2 m2
theorem LogS.entry {w : World} {S : Nat → Prop} {g n c : Nat} (h : LogS w S (.slice (some ⟨g, 0, none⟩) n c) n) {q : Nat} (hq : q < n) : ∃ A1 m1 c1 A2 m2 c2, InS w S g q n c (.slice A1 m1 c1) m1 (.slice A2 m2 c2) m2 := by
  obtain ⟨cells, h1, h2, h3⟩ := id h
  obtain ⟨A1, n1, c1, A2, n2, c2, q1, q2, q3, q4⟩ := h3 q hq
  have hl := h1.1
  have hh : (q + 1) * 9 ≤ n * 9 := Nat.mul_le_mul_right _ hq
  exact ⟨A1, n1, c1, A2, n2, c2, h, by rw [show q * 9 + 3 + 4 = q * 9 + 7 by omega, h1.cellAt _ (by omega)]; exact q1, by rw [show q * 9 + 3 + 5 = q * 9 + 8 by omega, h1.cellAt _ (by omega)]; exact q2, q3, q4⟩
theorem InS.far {w : World} {S : Nat → Prop} {g q n c : Nat} {v1 v2 : Value} {m1 m2 : Nat} (h : InS w S g q n c v1 m1 v2 m2) {b t : Nat} {cs : Array Value} (hb : w.heap[b]? = some (.cells cs t (0, 0))) (ht : 52 ≠ t) (o : Nat) (u : Value) : InS (w.setCell ⟨b, o, none⟩ u) S g q n c v1 m1 v2 m2 := by
  obtain ⟨h1, h2, h3, h4, h5⟩ := h
  have hne : b ≠ g := fun e => by
    obtain ⟨cells, q1, _⟩ := h1
    exact own_ne q1 hb ht (by rw [e]; rfl)
  have hc : Chg (fun k => k = b) w (w.setCell ⟨b, o, none⟩ u) := (Chg.refl (fun k => k = b) w).set (fun _ => rfl) u
  exact ⟨h1.far hb ht o u, hc.cell h2 (fun e => hne e.symm), hc.cell h3 (fun e => hne e.symm), h4.set b o u, h5.set b o u⟩
theorem LogS.chg {w w' : World} {S M : Nat → Prop} {v : Value} {n : Nat} (h : LogS w S v n) (hc : Chg M w w') (hM : ∀ k, S k → ¬ M k) : LogS w' S v n := by
  obtain ⟨cells, h1, h2, h3⟩ := h
  refine ⟨cells, hc.own h1 (fun k hk => hM k (h2 k hk)), h2, fun i hi => ?_⟩
  obtain ⟨A1, n1, c1, A2, n2, c2, q1, q2, ⟨x1, r1, s1⟩, ⟨x2, r2, s2⟩⟩ := h3 i hi
  exact ⟨A1, n1, c1, A2, n2, c2, q1, q2, ⟨x1, hc.own r1 (fun k hk => hM k (s1 k hk)), s1⟩, ⟨x2, hc.own r2 (fun k hk => hM k (s2 k hk)), s2⟩⟩
theorem logS_of {w : World} {B n : Nat} {v : Value} {xs : List Entry} (h : Vec entryW 52 w (fun k => B ≤ k) (fun k => B ≤ k) v xs) (hn : n = xs.length) : LogS w (fun k => B ≤ k ∧ k < w.heap.size) v n := by
  subst hn
  obtain ⟨cells, h1, h2, h3⟩ := h
  refine ⟨cells, h1, fun k hk => ⟨h2 k hk, own_lt h1 k hk⟩, fun i hi => ?_⟩
  obtain ⟨v1, v2, e, _, q1, q2⟩ := h3.2 i _ (List.getElem?_eq_getElem hi)
  have hl : ((cells.drop (i * 9)).take 9)[7]? = some v1 ∧ ((cells.drop (i * 9)).take 9)[8]? = some v2 := by
    have e' : (cells.drop (i * 9)).take 9 = _ := e
    rw [e']
    exact ⟨rfl, rfl⟩
  rw [List.getElem?_take, if_pos (by decide), List.getElem?_drop, List.getElem?_take, if_pos (by decide), List.getElem?_drop] at hl
  obtain ⟨A1, c1, e1⟩ := q1.form
  obtain ⟨A2, c2, e2⟩ := q2.form
  subst e1 e2
  obtain ⟨x1, r1, s1, _⟩ := q1
  obtain ⟨x2, r2, s2, _⟩ := q2
  exact ⟨A1, _, c1, A2, _, c2, hl.1, hl.2, ⟨x1, r1, fun k hk => ⟨(s1 k hk).1, (s1 k hk).2.2⟩⟩, ⟨x2, r2, fun k hk => ⟨(s2 k hk).1, (s2 k hk).2.2⟩⟩⟩
end Go.Proofs.Ytfpjickdkkhndaa.Pa


/- The walk of the law LedgerOwn. -/

namespace Go.Proofs.Ytfpjickdkkhndaa.Pa

set_option linter.unusedVariables false

set_option linter.unusedSimpArgs false

open Go.RowKit Go.Proofs.Ytfpjickdkkhndaa.C

attribute [local go_sem] max2_int min2_int max_two min_two

set_option maxHeartbeats 4000000 in
set_option maxRecDepth 100000 in
theorem LedgerOwn_walk (w : World) (ca : Array Value) (s : St) (h : stK.K w (fun k => k < w.heap.size) s ca.toList) :
    Calls Try.prog 5 #[.agg ca] w fun e w' => e = .returned (.bool true) ∧ Below w.heap.size w w' := by
  obtain ⟨A, n, c, rfl, hl, _⟩ := st_open h
  have HFIN := hid (fun (w' : World) (hc : Chg (fun _ => False) w w') => (show Below w.heap.size w w' from hc.below (Nat.le_refl _) (fun _ h => h.elim)))
  obtain ⟨w0, hw0⟩ : ∃ q_, q_ = (w.alloc (.cells #[.int .i64 s.view, .int .i64 s.normal, .int .i64 s.commit, .int .i64 s.active, .slice A n c] 32)) := ⟨_, rfl⟩
  have C0 := hid (show Chg (fun _ => False) w w0 by rw [hw0]; exact (Chg.refl _ w).alloc _)
  have BS := hid (show w0.heap[w.heap.size]? = some (.cells #[.int .i64 s.view, .int .i64 s.normal, .int .i64 s.commit, .int .i64 s.active, .slice A n c] 32 (0, 0)) by
    rw [hw0]
    have := blk_new w (.cells #[.int .i64 s.view, .int .i64 s.normal, .int .i64 s.commit, .int .i64 s.active, .slice A n c] 32)
    simpa using this)
  have SZ := hid (show w0.heap.size = w.heap.size + 1 by rw [hw0]; simp)
  have HA := hid (hl.chg C0.out (fun _ _ h => h))
  clear h hl
  go_enter Try.func5, Try.ntmps5
  go_wp2_with fail
  rw [← hw0]
  clear hw0
  refine (anchor13_any w0).mono ?_
  rintro e w1 ⟨rfl, h1⟩
  have C1 := hid (C0.out.trans h1 (fun _ h _ => h))
  replace BS := hid ((h1).blk BS.out (fun h => h))
  replace HA := hid (HA.out.chg (h1) (fun _ _ h => h))
  clear h1
  have S_0 : w1.cell? ⟨w.heap.size, 0, none⟩ = some (.int .i64 s.view) := (cellAt BS.out 0).trans rfl
  have S_1 : w1.cell? ⟨w.heap.size, 1, none⟩ = some (.int .i64 s.normal) := (cellAt BS.out 1).trans rfl
  have S_2 : w1.cell? ⟨w.heap.size, 2, none⟩ = some (.int .i64 s.commit) := (cellAt BS.out 2).trans rfl
  have S_3 : w1.cell? ⟨w.heap.size, 3, none⟩ = some (.int .i64 s.active) := (cellAt BS.out 3).trans rfl
  have S_4 : w1.cell? ⟨w.heap.size, 4, none⟩ = some (.slice A n c) := (cellAt BS.out 4).trans rfl
  go_wp2_with fail
  refine (smallstate_any HA.out).mono ?_
  rintro e w2 ⟨rfl, h2⟩
  have C2 := hid (C1.out.trans h2 (fun _ h _ => h))
  clear S_0 S_1 S_2 S_3 S_4
  replace BS := hid ((h2).blk BS.out (fun h => h))
  replace HA := hid (HA.out.chg (h2) (fun _ _ h => h))
  clear h2
  cases hs : smallR s.log
  · go_wp2_with fail
    go_ret
    exact ⟨rfl, HFIN.out _ C2.out⟩
  have HPA := hid (smallR_put hs)
  have hn7 : n ≤ 70 := by have h1 := HA.out.1; have h2 := smallR_len hs; omega
  clear hs
  have S_0 : w2.cell? ⟨w.heap.size, 0, none⟩ = some (.int .i64 s.view) := (cellAt BS.out 0).trans rfl
  have S_1 : w2.cell? ⟨w.heap.size, 1, none⟩ = some (.int .i64 s.normal) := (cellAt BS.out 1).trans rfl
  have S_2 : w2.cell? ⟨w.heap.size, 2, none⟩ = some (.int .i64 s.commit) := (cellAt BS.out 2).trans rfl
  have S_3 : w2.cell? ⟨w.heap.size, 3, none⟩ = some (.int .i64 s.active) := (cellAt BS.out 3).trans rfl
  have S_4 : w2.cell? ⟨w.heap.size, 4, none⟩ = some (.slice A n c) := (cellAt BS.out 4).trans rfl
  by_cases h8 : (8 : Int) < (n : Int)
  · go_wp2_with fail
    go_ret
    exact ⟨rfl, HFIN.out _ C2.out⟩
  go_wp2_with fail
  clear S_0 S_1 S_2 S_3 S_4
  clear h8
  refine (T.new_any 1048576 w2 (by decide) (by decide)).mono ?_
  rintro e w3 ⟨rfl, ht, h3⟩
  obtain ⟨g, hg⟩ : ∃ q_, q_ = w2.heap.size := ⟨_, rfl⟩
  rw [← hg] at ht ⊢
  have HG := hid hg
  have HT3 := hid (tape_core ht)
  have Z3 := hid (show g < w3.heap.size from lt_of_blk ht.blk)
  have C3 := hid (C2.out.trans h3 (fun _ h _ => h))
  have ZS := hid (show w.heap.size < g by rw [hg]; exact lt_of_blk BS.out)
  replace BS := hid ((h3).blk BS.out (fun h => h))
  replace HA := hid (HA.out.chg (h3) (fun _ _ h => h))
  have HNO := hid (show ∀ j, (Value.slice none 0 0).ownBlock ≠ some j from fun j h => by simp [Value.ownBlock] at h)
  clear ht h3 hg
  go_wp2_with fail
  refine (open_kept HT3.out kept0).mono ?_
  rintro e w4 ⟨p, v4, A4, n4, c4, S1, rfl, hle, hs1, h4⟩
  have L1 := hid hle
  have C4 := hid (C3.out.trans (S := fun _ => False) h4 (fun j hj hl => by rcases hj with h | h; have := ZS.out; omega; exact HNO.out j h))
  have X1 := hid (show ∀ j, S1 j → w.heap.size < j ∧ j < w4.heap.size from fun j hj => by
    have z := ZS.out
    have z2 := Z3.out
    have z3 := h4.size
    rcases hs1 j hj with (h | h) | h
    · exact ⟨by omega, by omega⟩
    · exact absurd h (HNO.out j)
    · exact ⟨by omega, h.2⟩)
  have ZW4 := hid (show w.heap.size < w4.heap.size by have := X1.out p L1.out.inS; omega)
  replace BS := hid (h4.blk BS.out (fun hk => by rcases hk with h | h; have := ZS.out; omega; exact HNO.out _ h))
  replace HA := hid (HA.out.chg h4 (fun j hj hk => by rcases hk with h | h; have h2 : j < w.heap.size := hj; have := ZS.out; omega; exact HNO.out j h))
  clear hle hs1 h4
  have S_0 : w4.cell? ⟨w.heap.size, 0, none⟩ = some (.int .i64 s.view) := (cellAt BS.out 0).trans rfl
  have S_1 : w4.cell? ⟨w.heap.size, 1, none⟩ = some (.int .i64 s.normal) := (cellAt BS.out 1).trans rfl
  have S_2 : w4.cell? ⟨w.heap.size, 2, none⟩ = some (.int .i64 s.commit) := (cellAt BS.out 2).trans rfl
  have S_3 : w4.cell? ⟨w.heap.size, 3, none⟩ = some (.int .i64 s.active) := (cellAt BS.out 3).trans rfl
  have S_4 : w4.cell? ⟨w.heap.size, 4, none⟩ = some (.slice A n c) := (cellAt BS.out 4).trans rfl
  go_wp2_with fail
  refine (madestate_any HA.out (by omega) HPA.out).mono ?_
  rintro e w5 ⟨XA, xc, rfl, hat, h5⟩
  obtain ⟨xn, hxn⟩ : ∃ q_, q_ = s.log.length := ⟨_, rfl⟩
  rw [← hxn] at hat ⊢
  have C5 := hid (C4.out.trans h5 (fun _ h _ => h))
  clear S_0 S_1 S_2 S_3 S_4
  replace BS := hid ((h5).blk BS.out (fun h => h))
  replace HA := hid (HA.out.chg (h5) (fun _ _ h => h))
  have HX := hid hat.bound
  replace L1 := hid (L1.out.chg h5 (fun _ _ h => h))
  have Z5 := hid (show w4.heap.size ≤ w5.heap.size from h5.size)
  clear hat h5 hxn
  obtain ⟨w6, hw6⟩ : ∃ q_, q_ = w5.alloc (.cells #[.int .i64 s.view, .int .i64 s.normal, .int .i64 s.commit, .int .i64 s.active, .slice XA xn xc] 41) := ⟨_, rfl⟩
  have Dw6 := hid (show Chg (fun _ => False) w5 w6 by rw [hw6]; exact (Chg.refl _ w5).alloc _)
  replace BS := hid ((Dw6.out).blk BS.out (fun h => h))
  replace HA := hid (HA.out.chg (Dw6.out) (fun _ _ h => h))
  replace HX := hid (HX.out.chg (Dw6.out) (fun _ _ h => h))
  have BX := hid (show w6.heap[w5.heap.size]? = some (.cells #[.int .i64 s.view, .int .i64 s.normal, .int .i64 s.commit, .int .i64 s.active, .slice XA xn xc] 41 (0, 0)) by rw [hw6]; exact blk_new w5 _)
  have hw6' := hid hw6
  clear hw6
  replace L1 := hid (L1.out.chg Dw6.out (fun _ _ h => h))
  have C6 := hid (C5.out.trans Dw6.out (fun _ h _ => h))
  have Z56 := hid (show w5.heap.size < w6.heap.size from lt_of_blk BX.out)
  have S_0 : w6.cell? ⟨w.heap.size, 0, none⟩ = some (.int .i64 s.view) := (cellAt BS.out 0).trans rfl
  have S_1 : w6.cell? ⟨w.heap.size, 1, none⟩ = some (.int .i64 s.normal) := (cellAt BS.out 1).trans rfl
  have S_2 : w6.cell? ⟨w.heap.size, 2, none⟩ = some (.int .i64 s.commit) := (cellAt BS.out 2).trans rfl
  have S_3 : w6.cell? ⟨w.heap.size, 3, none⟩ = some (.int .i64 s.active) := (cellAt BS.out 3).trans rfl
  have S_4 : w6.cell? ⟨w.heap.size, 4, none⟩ = some (.slice A n c) := (cellAt BS.out 4).trans rfl
  go_wp2_with (first | ((with_reducible refine at_dst (N := 35) rfl ?_); rw [← hw6'.out]; clear hw6'))
  refine (save_kept L1.out kept0 HA.out (fun j hj hs => by have h1 := (X1.out j hs).1; have h2 : j < w.heap.size := hj; omega)).mono ?_
  rintro e w7 ⟨v7, A7, n7, c7, S2, t2, s7, br7, rfl, hle, hk7, hz, _, hs2, h7⟩
  obtain ⟨cd, hcd⟩ : ∃ q_, q_ = (saveT (T.calm [] 0 1048576) st0 false s).2.2.2 := ⟨_, rfl⟩
  rw [← hcd] at hz
  rw [← hcd]
  clear hcd
  have C7 := hid (C6.out.trans (S := fun _ => False) h7 (fun j hj hl => by have := (X1.out j hj).1; omega))
  clear S_0 S_1 S_2 S_3 S_4
  by_cases hc1 : cd = 0
  case neg =>
    have hc2 : (cd != 0) = true := by simp [hc1]
    clear hc1 hz hle hk7 hs2 h7
    go_wp2_with fail
    go_ret
    exact ⟨rfl, HFIN.out _ C7.out⟩
  subst hc1
  obtain ⟨e1, rfl⟩ := hz rfl
  obtain rfl := e1.symm
  replace L1 := hid hle
  have HSR := hid hk7.right
  have Z567 := hid (show w6.heap.size ≤ w7.heap.size from h7.size)
  have ZX := hid (show ∀ j, S1 j → j < w5.heap.size from fun j hj => by have h1 := (X1.out j hj).2; have h2 := Z5.out; omega)
  replace HX := hid (HX.out.chg h7 (fun j hj h => by
    rcases hj.1 with q | q
    · have h1 := (X1.out j h).1; have h2 : j < w.heap.size := q.1; omega
    · have h1 := (X1.out j h).2; omega))
  replace BX := hid (h7.blk BX.out (fun h => by have := ZX.out _ h; omega))
  have X2 := hid (show ∀ j, S2 j → w.heap.size < j ∧ j ≠ w5.heap.size ∧ ¬ (w4.heap.size ≤ j ∧ j < w6.heap.size) ∧ j < w7.heap.size from fun j hj => by
    have z6 := Dw6.out.size
    have z7 := h7.size
    have z5 := Z5.out
    have zc := C4.out.size
    have zl := lt_of_blk BX.out
    have zs := ZW4.out
    have z56 := Z56.out
    rcases hs2 j hj with h | h
    · have h1 := X1.out j h; exact ⟨h1.1, by omega, by omega, by omega⟩
    · exact ⟨by omega, by omega, by omega, h.2⟩)
  clear hz hle hk7 hs2 h7
  go_wp2_with fail
  refine (State_own L1.out).mono ?_
  rintro e w8 ⟨TA, tn, tc, rfl, hvec, h8⟩
  have C8 := hid (C7.out.trans h8 (fun _ h _ => h))
  have HTN := hid (show tn = s.log.length by obtain ⟨_, _, e⟩ := hvec.form; injection e)
  have HLS := hid (logS_of hvec HTN.out)
  replace L1 := hid (L1.out.chg h8 (fun _ _ h => h))
  replace HX := hid (HX.out.chg h8 (fun _ _ h => h))
  replace BX := hid (h8.blk BX.out (fun h => h))
  have Z78 := hid (show w7.heap.size ≤ w8.heap.size from h8.size)
  have htn : tn ≤ 64 := by have h1 := (stR_iff.1 HSR.out).1; have h2 := HTN.out; omega
  clear hvec h8
  obtain ⟨w9, hw9⟩ : ∃ q_, q_ = w8.alloc (.cells #[.int .i64 s.view, .int .i64 s.normal, .int .i64 s.commit, .int .i64 s.active, .slice TA tn tc] 32) := ⟨_, rfl⟩
  have Dw9 := hid (show Chg (fun _ => False) w8 w9 by rw [hw9]; exact (Chg.refl _ w8).alloc _)
  replace BX := hid ((Dw9.out).blk BX.out (fun h => h))
  replace HX := hid (HX.out.chg (Dw9.out) (fun _ _ h => h))
  have BT := hid (show w9.heap[w8.heap.size]? = some (.cells #[.int .i64 s.view, .int .i64 s.normal, .int .i64 s.commit, .int .i64 s.active, .slice TA tn tc] 32 (0, 0)) by rw [hw9]; exact blk_new w8 _)
  have hw9' := hid hw9
  clear hw9
  replace L1 := hid (L1.out.chg Dw9.out (fun _ _ h => h))
  have C9 := hid (C8.out.trans Dw9.out (fun _ h _ => h))
  obtain ⟨R, hR⟩ : ∃ R : Nat → Prop, ∀ j, R j ↔ (w7.heap.size ≤ j ∧ j < w8.heap.size) := ⟨_, fun _ => Iff.rfl⟩
  have HRR := hid hR
  have LS9 := hid (show LogS w9 R (.slice TA tn tc) tn from (by
    have h1 := HLS.out.chg Dw9.out (fun _ _ h => h)
    obtain ⟨cells, q1, q2, q3⟩ := h1
    refine ⟨cells, q1, fun k hk => (HRR.out k).2 (q2 k hk), fun i hi => ?_⟩
    obtain ⟨A1, n1, c1, A2, n2, c2, p1, p2, ⟨x1, r1, s1⟩, ⟨x2, r2, s2⟩⟩ := q3 i hi
    exact ⟨A1, n1, c1, A2, n2, c2, p1, p2, ⟨x1, r1, fun k hk => (HRR.out k).2 (s1 k hk)⟩, ⟨x2, r2, fun k hk => (HRR.out k).2 (s2 k hk)⟩⟩))
  have HRT := hid (show ¬ R w8.heap.size from fun h => by have := (HRR.out _).1 h; omega)
  clear hR HLS
  have T_0 : w9.cell? ⟨w8.heap.size, 0, none⟩ = some (.int .i64 s.view) := (cellAt BT.out 0).trans rfl
  have T_1 : w9.cell? ⟨w8.heap.size, 1, none⟩ = some (.int .i64 s.normal) := (cellAt BT.out 1).trans rfl
  have T_2 : w9.cell? ⟨w8.heap.size, 2, none⟩ = some (.int .i64 s.commit) := (cellAt BT.out 2).trans rfl
  have T_3 : w9.cell? ⟨w8.heap.size, 3, none⟩ = some (.int .i64 s.active) := (cellAt BT.out 3).trans rfl
  have T_4 : w9.cell? ⟨w8.heap.size, 4, none⟩ = some (.slice TA tn tc) := (cellAt BT.out 4).trans rfl
  go_wp2_with (first | ((with_reducible refine at_dst (N := 41) rfl ?_); rw [← hw9'.out]; clear hw9'))
  clear T_0 T_1 T_2 T_3 T_4
  go_loopw [43] (fun i wr => ∃ q : Nat, q ≤ tn ∧ i = .int .i64 q ∧ LogS wr R (.slice TA tn tc) tn ∧ Chg R w9 wr) (fun i _ => tn - (intOf i).toNat)
  case atStart => exact ⟨0, Nat.zero_le _, rfl, LS9.out, Chg.refl _ _⟩
  case round =>
    obtain ⟨q, hq, rfl, hls, hC⟩ := hrel
    have HLS := hid hls
    have HC := hid hC
    have BT2 := hid (hC.blk BT.out HRT.out)
    clear hls hC
    by_cases hlt : q < tn
    · have hlt2 : (q : Int) < (tn : Int) := by omega
      obtain ⟨gL, hTA, hRg, ⟨csL, hbL⟩, hat⟩ := HLS.out.row.at hlt
      subst hTA
      obtain ⟨u1, hc1, hf1⟩ := hat 1 (by decide)
      have T_4 : wr.cell? ⟨w8.heap.size, 4, none⟩ = some (.slice (some ⟨gL, 0, none⟩) tn tc) := (cellAt BT2.out 4).trans rfl
      have hgT : gL ≠ w8.heap.size := fun e => HRT.out (e ▸ hRg)
      have hgT2 : w8.heap.size ≠ gL := fun e => HRT.out (e ▸ hRg)
      obtain ⟨W1, hW1⟩ : ∃ q_, q_ = wr.setCell ⟨gL, q * 9 + 1, none⟩ (.int .i64 (-1)) := ⟨_, rfl⟩
      have HL1 := hid (show LogS W1 R (.slice (some ⟨gL, 0, none⟩) tn tc) tn by rw [hW1]; exact HLS.out.own _)
      have HC1 := hid (show Chg R w9 W1 by rw [hW1]; exact HC.out.set (fun _ => hRg) _)
      have BT3 := hid (HC1.out.blk BT.out HRT.out)
      obtain ⟨A1, m1, k1, A2, m2, k2, hin⟩ := HL1.out.entry hlt
      have HI := hid hin
      have c7 := hin.2.1
      have c8 := hin.2.2.1
      have hm1 := hin.2.2.2.1.le
      have hm2 := hin.2.2.2.2.le
      have T3_4 : W1.cell? ⟨w8.heap.size, 4, none⟩ = some (.slice (some ⟨gL, 0, none⟩) tn tc) := (cellAt BT3.out 4).trans rfl
      clear hin hat hbL
      have hW1' := hid hW1
      clear hW1
      go_wp2_with (first | ((with_reducible refine at_dst (N := 52) rfl ?_); rw [← hW1'.out]; clear hW1' hc1 hf1 T_4))
      clear c7 c8 T3_4
      go_loopw [59] (fun i wr => ∃ k : Nat, k ≤ m1 ∧ i = .int .i64 k ∧ InS wr R gL q tn tc (.slice A1 m1 k1) m1 (.slice A2 m2 k2) m2 ∧ Chg R w9 wr) (fun i _ => m1 - (intOf i).toNat)
      case atStart => exact ⟨0, Nat.zero_le _, rfl, HI.out, HC1.out⟩
      case round =>
        obtain ⟨k, hk, rfl, hi, hC⟩ := hrel
        have HJ := hid hi
        have HCJ := hid hC
        have BTJ := hid (hC.blk BT.out HRT.out)
        clear hi hC
        have d7 := HJ.out.2.1
        have d8 := HJ.out.2.2.1
        have TJ_4 : wr.cell? ⟨w8.heap.size, 4, none⟩ = some (.slice (some ⟨gL, 0, none⟩) tn tc) := (cellAt BTJ.out 4).trans rfl
        by_cases hltk : k < m1
        · have hltk2 : (k : Int) < (m1 : Int) := by omega
          obtain ⟨g1, hA1, hRg1, ⟨cs1, hb1⟩, hat1⟩ := HJ.out.2.2.2.1.at hltk
          subst hA1
          obtain ⟨u2, hc2, hf2⟩ := hat1 0 (by decide)
          rw [Nat.add_zero] at hc2 hf2
          have HB1 := hid hb1
          clear hat1 hb1
          go_wp2_with fail
          go_roundw
          case measure => simp [intOf]; omega
          case rel => exact ⟨k + 1, hltk, by go_num, HJ.out.far HB1.out (by decide) _ _, HCJ.out.set (fun _ => hRg1) _⟩
        · have hkm : ¬ (k : Int) < (m1 : Int) := by omega
          obtain rfl : m1 = k := by omega
          go_wp2_with fail
          clear d7 d8 TJ_4
          go_loopw [81] (fun i wx => ∃ k : Nat, k ≤ m2 ∧ i = .int .i64 k ∧ InS wx R gL q tn tc (.slice A1 m1 k1) m1 (.slice A2 m2 k2) m2 ∧ Chg R w9 wx) (fun i _ => m2 - (intOf i).toNat)
          case atStart => exact ⟨0, Nat.zero_le _, rfl, HJ.out, HCJ.out⟩
          case round =>
            obtain ⟨k, hk, rfl, hi, hC⟩ := hrel
            have HP := hid hi
            have HCP := hid hC
            have BTP := hid (hC.blk BT.out HRT.out)
            clear hi hC
            have d7 := HP.out.2.1
            have d8 := HP.out.2.2.1
            have TP_4 : wr.cell? ⟨w8.heap.size, 4, none⟩ = some (.slice (some ⟨gL, 0, none⟩) tn tc) := (cellAt BTP.out 4).trans rfl
            by_cases hltk : k < m2
            · have hltk2 : (k : Int) < (m2 : Int) := by omega
              obtain ⟨g2, hA2, hRg2, ⟨cs2, hb2⟩, hat2⟩ := HP.out.2.2.2.2.at hltk
              subst hA2
              obtain ⟨u3, hc3, hf3⟩ := hat2 0 (by decide)
              rw [Nat.mul_one, Nat.add_zero] at hc3 hf3
              have HB2 := hid hb2
              clear hat2 hb2
              go_wp2_with fail
              go_roundw
              case measure => simp [intOf]; omega
              case rel => exact ⟨k + 1, hltk, by go_num, HP.out.far HB2.out (by decide) _ _, HCP.out.set (fun _ => hRg2) _⟩
            · have hkm2 : ¬ (k : Int) < (m2 : Int) := by omega
              obtain rfl : m2 = k := by omega
              go_wp2_with fail
              go_roundw
              case measure => simp [intOf]; omega
              case rel => exact ⟨q + 1, hlt, by go_num, HP.out.1, HCP.out⟩
    · have hqn : ¬ (q : Int) < (tn : Int) := by omega
      obtain rfl : q = tn := by omega
      have L9 := hid (L1.out.chg HC.out (fun j hj h => by have h1 := (X2.out j hj).2.2.2; have h2 := ((HRR.out j).1 h).1; omega))
      have HXR := hid (HX.out.chg HC.out (fun j hj h => by
        have h2 := ((HRR.out j).1 h).1
        have z6 := Dw6.out.size
        have z57 := Z567.out
        have z5 := Z5.out
        rcases hj.1 with q | q
        · have h1 : j < w.heap.size := q.1; have z := ZW4.out; omega
        · have h1 := hj.2; omega))
      have BXR := hid (HC.out.blk BX.out (fun h => by have h2 := ((HRR.out _).1 h).1; have z57 := Z567.out; have z := Z56.out; omega))
      have CF := hid (C9.out.trans (S := fun _ => False) HC.out (fun j hj h => by have h2 := ((HRR.out _).1 hj).1; have z57 := Z567.out; have z := Z56.out; have z5 := Z5.out; have z4 := ZW4.out; omega))
      go_wp2_with fail
      have UX_0 : ∀ wx, Chg (fun _ => False) wr wx → wx.cell? ⟨w5.heap.size, 0, none⟩ = some (.int .i64 s.view) := fun wx hx => (cellAt (hx.blk BXR.out (fun h => h)) 0).trans rfl
      have UX_1 : ∀ wx, Chg (fun _ => False) wr wx → wx.cell? ⟨w5.heap.size, 1, none⟩ = some (.int .i64 s.normal) := fun wx hx => (cellAt (hx.blk BXR.out (fun h => h)) 1).trans rfl
      have UX_2 : ∀ wx, Chg (fun _ => False) wr wx → wx.cell? ⟨w5.heap.size, 2, none⟩ = some (.int .i64 s.commit) := fun wx hx => (cellAt (hx.blk BXR.out (fun h => h)) 2).trans rfl
      have UX_3 : ∀ wx, Chg (fun _ => False) wr wx → wx.cell? ⟨w5.heap.size, 3, none⟩ = some (.int .i64 s.active) := fun wx hx => (cellAt (hx.blk BXR.out (fun h => h)) 3).trans rfl
      have UX_4 : ∀ wx, Chg (fun _ => False) wr wx → wx.cell? ⟨w5.heap.size, 4, none⟩ = some (.slice XA xn xc) := fun wx hx => (cellAt (hx.blk BXR.out (fun h => h)) 4).trans rfl
      refine wpB_start (fun wx : World => Chg (fun _ => False) wr wx) (by kernel_rfl) ?_
      have hHeld : (fun wx : World => Chg (fun _ => False) wr wx) _ := (by first | assumption | exact Chg.drew (Chg.refl _ _) | (show _ ∧ _; refine ⟨?_, ?_⟩ <;> assumption) | (first | assumption | (with_reducible exact HZ2.out) | (with_reducible exact HZ.out)))
      generalize hgd : wr.drew = wd at hHeld ⊢
      clear hgd
      -- 0: t95 := move t3 : 26
      refine wpB_take (i := 0) (v := ?_) (get_of_drop rfl) (by kernel_rfl) (by kernel_rfl) (by kernel_rfl) (by kernel_rfl) (fun _ _ _ h => h) (Or.inl ⟨by rfl, ?_⟩) hHeld ?_
      rotate_left
      · (intro w hSw; (try dsimp only at hSw); go_simp <;> with_reducible rfl)
      try simp only [Act.put, List.setIfInBounds_toArray, List.set_cons_zero, List.set_cons_succ]
      -- 2: t97 := load 41 t5 : 41
      refine wpB_take (i := 2) (v := ?_) (get_of_drop rfl) (by kernel_rfl) (by kernel_rfl) (by kernel_rfl) (by kernel_rfl) (fun _ _ _ h => h) (Or.inl ⟨by rfl, ?_⟩) hHeld ?_
      rotate_left
      · (intro w hSw; (try dsimp only at hSw); go_simp <;> with_reducible rfl)
      try simp only [Act.put, List.setIfInBounds_toArray, List.set_cons_zero, List.set_cons_succ]
      -- 1: t96 := CALL fn11(t95) : 32
      refine wpB_act (i := 1) (by kernel_rfl) (get_of_drop rfl) (fun K hK => ?_)
      go_simp
      refine (State_any (L9.out.chg hHeld (fun _ _ h => h))).mono ?_
      rintro e' wy ⟨A9, n9, c9, rfl, hat, hcy⟩
      have HS9 := hid hat
      have HZ := hid (show Chg (fun _ => False) wr wy from hHeld.trans hcy (fun _ h _ => h))
      clear hcy hat
      refine hK.out _ _ ?_ (fun hHeld2 => ?_)
      · (first | assumption | (with_reducible exact HZ2.out) | (with_reducible exact HZ.out))
      clear hHeld hK K
      have hHeld := hHeld2
      clear hHeld2
      try simp only [Act.put, List.setIfInBounds_toArray, List.set_cons_zero, List.set_cons_succ]
      -- 3: t98 := CALL fn15(t96, t97) : 4 (BARRIER)
      refine wpB_bar (i := 3) (by kernel_rfl) (get_of_drop rfl) (by kernel_rfl) (fun K hK => ?_)
      go_simp
      refine (same13_any (x := s) (HS9.out.chg (Chg.refl (fun _ => False) wy) (fun _ _ h => h)) (HXR.out.chg HZ.out (fun _ _ h => h)) (by have h1 := HS9.out.1; have h2 := (stR_iff.1 HSR.out).1; omega) (fun e he => (fits_right (stR_iff.1 HSR.out).2 e he).1)).mono ?_
      rintro e' wz ⟨rfl, hcy⟩
      rw [decide_eq_true (rfl : s = s)]
      have HZ2 := hid (show Chg (fun _ => False) wr wz from HZ.out.trans hcy (fun _ h _ => h))
      clear hcy
      refine hK.out _ _ (fun _ : World => True) ?_
      clear hHeld hK K
      have hHeld := trivial
      try simp only [Act.put, List.setIfInBounds_toArray, List.set_cons_zero, List.set_cons_succ]
      -- 4: t2 := assign t98 : 4
      refine wpB_take (i := 4) (v := ?_) (get_of_drop rfl) (by kernel_rfl) (by kernel_rfl) (by kernel_rfl) (by kernel_rfl) (fun _ _ _ h => h) (Or.inl ⟨by rfl, ?_⟩) hHeld ?_
      rotate_left
      · (intro w hSw; (try dsimp only at hSw); go_simp <;> with_reducible rfl)
      try simp only [Act.put, List.setIfInBounds_toArray, List.set_cons_zero, List.set_cons_succ]
      refine wpB_done (by kernel_rfl) ?_ _
      clear hHeld UX_0 UX_1 UX_2 UX_3 UX_4
      go_wp2_with fail
      go_ret
      exact ⟨rfl, HFIN.out _ (CF.out.trans HZ2.out (fun _ h _ => h))⟩
end Go.Proofs.Ytfpjickdkkhndaa.Pa

/- The row of the law LedgerOwn, out of its walk: for every input that can be read the law returns true, and each argument reads behind the call as it did. -/
namespace Go.Proofs.Ytfpjickdkkhndaa.ledgerOwn
open Go.ChangeShapes Go.WideShapes Go.ChangeAt Go.RowKit
open Go.ChangeMaps (open_string shut_string)
set_option linter.unusedVariables false
theorem own : ownKnob Try.prog.godebug = none := by kernel_rfl
theorem laidOut : laidOutB Try.prog = true := by kernel_rfl
set_option maxRecDepth 100000 in
theorem lifted (os : Os) (started : os.Started) (H : Type) (enc : TypeId × Value → H) :
    ReturnsInHanded {} Try.checked os 5 .any (Rows.ledgerOwnSpec.pre6 enc Try.prog Try.f5 Rows.ledgerOwnRow.domain false) (Rows.ledgerOwnSpec.post enc Try.prog Try.f5 false true false false) := by
  refine returnsInHanded_of_change_sized (C := Try.checked) own started (by kernel_rfl) Try.func5
    (ChangeSpec.witness6 (enc := enc) (C := Try.checked) false ⟨#[], #[.agg #[.int .i64 0, .int .i64 0, .int .i64 0, .int .i64 0, .slice none 0 0]], []⟩ 8 (by kernel_rfl) (by kernel_rfl) (by kernel_rfl) (by kernel_rfl)) ?_
  intro W base args ds gs before hval0 hW hcnd hsz0 _
  have hval : ∀ (j : Nat) t v, Try.f5.params[j]? = some t → args[j]? = some v → Value.okWide Try.prog W .any base t v := hval0
  have hW' := hW
  obtain ⟨p, q, hA0, hV, rfl, hfz, hnd⟩ := hW
  have hA : DataW.TrodAll enc Try.prog W 0 (fun _ => true) true Try.f5.params.toList args.toList ds p := hA0
  rw [Try.params5] at hA hval
  obtain ⟨v0, vs0, d0, ds0, p0, q0, hargs, rfl, rfl, h0, r0⟩ := trodAll_cons hA
  obtain ⟨rfl, rfl, rfl⟩ := trodAll_nil r0
  obtain rfl : args = #[v0] := by cases args; simp_all
  obtain ⟨rfl, rfl⟩ := trodVars_none hV
  have k0 := h0
  have lt0 : ∀ x ∈ p0, x.block < W.heap.size := by obtain ⟨m, hm⟩ := k0; exact DataW.trod_lt m _ _ _ hm
  obtain ⟨cs0, rfl, _⟩ := okWide_struct Try.underlying32 (hval 0 32 v0 rfl rfl)
  obtain ⟨z0, w0⟩ : ∃ x, Pa.stK.K W (fun k => k < W.heap.size) x cs0.toList := by
    obtain ⟨fuel, hf⟩ := h0
    exact Pa.opens_st.opens enc W _ _ fuel _ _ hf
  clear hA0 hval0 hsz0
  refine (Pa.LedgerOwn_walk W cs0 z0 w0).mono fun e W' ⟨he, bel⟩ => ?_
  subst he
  exact ⟨_, rfl, _, _, _, [], _, [], hW', trodAll_mk1 (shut_bool (Try.underlying4) _), (trodAll_cons_mk (Below.trod laidOut (by kernel_rfl) (of_decide_eq_true (by kernel_rfl)) k0 bel lt0) trodAll_mk0), rfl, bel.frame _, fun h => by cases h⟩
theorem over : Rows.ledgerOwnRow.holds Try.pinned (OpenSpec.ofChange Rows.ledgerOwnSpec) :=
  OpenClaim.holds_of_wide 5 Try.f5 rfl rfl rfl rfl rfl rfl rfl ⟨rfl, rfl, rfl, rfl, rfl⟩ rfl rfl rfl rfl rfl (by kernel_rfl) Try.func5 (by kernel_rfl)
    (of_decide_eq_true (by kernel_rfl)) (by unfold Func.isWrapper; first | (rw [if_pos (by decide +kernel)]; kernel_rfl) | (rw [if_neg (by decide +kernel)]; exact ⟨rfl, rfl⟩))
    (fun os started H enc _ => lifted os started H enc)
end Go.Proofs.Ytfpjickdkkhndaa.ledgerOwn
namespace Go.Proofs.Ytfpjickdkkhndaa
theorem ledgerOwn_holds : Rows.LedgerOwnSaid := ledgerOwn.over
#print axioms ledgerOwn_holds
end Go.Proofs.Ytfpjickdkkhndaa
