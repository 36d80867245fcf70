/- Texts of this claim, one behind the other: PackMe, PackAn, TypesP, Tape, TapeC, TapeL, TapeA, FrameP, Frame, FrameR, FrameM, LedP, LedC, LedR. -/
import Derived.Test.YtfpjickdkkhndaaMB
import Derived.Test.YtfpjickdkkhndaaME
import Derived.Test.YtfpjickdkkhndaaMC
import Derived.Test.YtfpjickdkkhndaaMA
import Derived.Lib.SlBytesConst
import Derived.ArgAppend

/- What the statements ask of entries: are they small? -/

namespace Go.Proofs.Ytfpjickdkkhndaa.Pa

set_option linter.unusedVariables false

set_option linter.unusedSimpArgs false

open Go.RowKit Go.Proofs.Ytfpjickdkkhndaa.C

attribute [local go_sem] max2_int min2_int max_two min_two

def smallE (e : Entry) : Bool := decide (e.put.length ≤ 20) && decide (e.drop.length ≤ 20) && e.put.all (fun r => decide (r.pat.size ≤ 300))
def smallR (l : List Entry) : Bool := l.all (fun e => smallE e) && decide (l.length ≤ 70)
theorem smallR_put {l : List Entry} (h : smallR l = true) : ∀ e ∈ l, e.put.length ≤ 1000000 := by
  intro e he
  unfold smallR at h
  simp only [Bool.and_eq_true, List.all_eq_true] at h
  have := h.1 e he
  unfold smallE at this
  simp only [Bool.and_eq_true, decide_eq_true_eq] at this
  omega
theorem smallR_len {l : List Entry} (h : smallR l = true) : l.length ≤ 70 := by
  unfold smallR at h
  simp only [Bool.and_eq_true, decide_eq_true_eq] at h
  exact h.2
theorem small_no {l : List Entry} {k : Nat} {e : Entry} (h : l[k]? = some e) (he : smallE e = false) : smallR l = false := by
  unfold smallR
  rw [Bool.and_eq_false_iff]
  left
  rw [List.all_eq_false]
  exact ⟨e, List.mem_of_getElem? h, by simp [he]⟩
set_option maxHeartbeats 4000000 in
set_option maxRecDepth 100000 in
theorem small_any {w : World} {R : Nat → Prop} {xs : List Entry} {A : Option Addr} {n c : Nat} (hl : Ty.At entryK w R A n c xs) :
    Calls Try.prog 23 #[.slice A n c] w fun e' w' => e' = .returned (.bool (smallR xs)) ∧ Chg (fun _ => False) w w' := by
  have HL := hid hl
  have L1 := hid hl.1
  have hn2 : (n : Int) ≤ 9223372036854775807 := by have q1 := hl.2.1; have q2 := hl.2.2.1; simp [maxLen] at q2; omega
  clear hl
  go_enter Try.func23, Try.ntmps23
  go_wp2_with fail
  go_loopw [9] (fun i wr => ∃ k : Nat, k ≤ n ∧ i = .int .i64 k ∧ (xs.take k).all (fun e => smallE e) = true ∧ Chg (fun _ => False) w wr) (fun i _ => n - (intOf i).toNat)
  case atStart => exact ⟨0, Nat.zero_le _, rfl, rfl, Chg.refl _ _⟩
  case round =>
    obtain ⟨k, hk, rfl, hp, hC⟩ := hrel
    have HP := hid hp
    have HC := hid hC
    clear hp hC
    by_cases hlt : k < n
    · have hlt2 : (k : Int) < (n : Int) := by omega
      obtain ⟨r, hr⟩ : ∃ r, xs[k]? = some r := ⟨_, List.getElem?_eq_getElem (by have := L1.out; omega)⟩
      obtain ⟨a, cs, ha, haR, hK, hcs⟩ := HL.out.get (by decide) hr
      obtain ⟨E1, m1, d1, E2, m2, d2, rfl, hrw⟩ := entry_open (id hK)
      subst ha
      have hcs2 : ∀ j u, (entryCells r E1 m1 d1 E2 m2 d2)[j]? = some u → wr.cell? (a.add (k * 9 + j)) = some u := fun j u hj => HC.out.cell (hcs j u hj) (fun h => h)
      have x0 := elem_cell0 hcs2 _ rfl
      have x1 := elem_cell hcs2 0 _ rfl
      have x2 := elem_cell hcs2 1 _ rfl
      have x3 := elem_cell hcs2 2 _ rfl
      have x4 := elem_cell hcs2 3 _ rfl
      have x5 := elem_cell hcs2 4 _ rfl
      have x6 := elem_cell hcs2 5 _ rfl
      have x7 := elem_cell hcs2 6 _ rfl
      have x8 := elem_cell hcs2 7 _ rfl
      have HNO := hid (fun he => small_no hr he)
      have HAK := hid (show (xs.take (k + 1)).all (fun e => smallE e) = ((xs.take k).all (fun e => smallE e) && smallE r) by rw [List.take_add_one, hr, Option.toList_some, List.all_append]; simp)
      have HPUT := hid (hrw.2.1.chg HC.out (fun _ _ h => h))
      have M1 := hid hrw.2.1.1
      have M2 := hid hrw.2.2.1
      have hm1 : (m1 : Int) ≤ 9223372036854775807 := by have q1 := hrw.2.1.2.1; have q2 := hrw.2.1.2.2.1; simp [maxLen] at q2; omega
      clear hcs hK hcs2 hr haR hrw
      by_cases k1 : (m1 : Int) ≤ 20
      case neg =>
        have G := hid (HNO.out (show smallE r = false by unfold smallE; rw [decide_eq_false (show ¬ r.put.length ≤ 20 by have := M1.out; omega)]; rfl))
        have k1' : (20 : Int) < (m1 : Int) := by omega
        clear k1
        go_wp2_with fail
        go_ret
        exact ⟨by rw [G.out]; rfl, HC.out.alloc _⟩
      by_cases k2 : (m2 : Int) ≤ 20
      case neg =>
        have G := hid (HNO.out (show smallE r = false by unfold smallE; rw [decide_eq_false (show ¬ r.drop.length ≤ 20 by have := M2.out; omega)]; simp))
        have k2' : (20 : Int) < (m2 : Int) := by omega
        have k1' : ¬ (20 : Int) < (m1 : Int) := by omega
        clear k1 k2
        go_wp2_with fail
        go_ret
        exact ⟨by rw [G.out]; rfl, HC.out.alloc _⟩
      have GE := hid (show smallE r = r.put.all (fun r => decide (r.pat.size ≤ 300)) by unfold smallE; rw [decide_eq_true (show r.put.length ≤ 20 by have := M1.out; omega), decide_eq_true (show r.drop.length ≤ 20 by have := M2.out; omega)]; rfl)
      have k1' : ¬ (20 : Int) < (m1 : Int) := by omega
      have k2' : ¬ (20 : Int) < (m2 : Int) := by omega
      obtain ⟨W1, hW1⟩ : ∃ W1, W1 = wr.alloc (.cells #[.int .i64 r.view, .int .i64 r.client, .int .i64 r.request, .int .i64 r.dflt, .int .i64 r.closed, .int .i64 r.fuel, .int .i64 r.stack, .slice E1 m1 d1, .slice E2 m2 d2] 52) := ⟨_, rfl⟩
      have CW1 := hid (show Chg (fun _ => False) wr W1 by rw [hW1]; exact (Chg.refl _ wr).alloc _)
      have HW1 := hid hW1
      clear hW1 k1 k2
      go_wp2_with fail
      rw [← HW1.out]
      clear HW1 x0 x1 x2 x3 x4 x5 x6 x7 x8
      have CWW := hid (HC.out.trans CW1.out (fun _ h _ => h))
      go_loopw [29] (fun i wr => ∃ j : Nat, j ≤ m1 ∧ i = .int .i64 j ∧ (r.put.take j).all (fun r => decide (r.pat.size ≤ 300)) = true ∧ Chg (fun _ => False) W1 wr) (fun i _ => m1 - (intOf i).toNat)
      case atStart => exact ⟨0, Nat.zero_le _, rfl, rfl, Chg.refl _ _⟩
      case round =>
        obtain ⟨j, hj, rfl, hp, hC⟩ := hrel
        have HP2 := hid hp
        have HC2 := hid hC
        clear hp hC
        by_cases hlt : j < m1
        · have hlt2 : (j : Int) < (m1 : Int) := by omega
          obtain ⟨y, hy⟩ : ∃ y, r.put[j]? = some y := ⟨_, List.getElem?_eq_getElem (by have := M1.out; omega)⟩
          obtain ⟨b, ds, hb, hbR, hK, hds⟩ := HPUT.out.get (by decide) hy
          obtain ⟨rfl, hrw⟩ := rule_open hK
          subst hb
          have hds2 : ∀ i u, (ruleCells y)[i]? = some u → wr.cell? (b.add (j * 5 + i)) = some u := fun i u hi => HC2.out.cell (CW1.out.cell (hds i u hi) (fun h => h)) (fun h => h)
          have x0 := elem_cell0 hds2 _ rfl
          have x1 := elem_cell hds2 0 _ rfl
          have x2 := elem_cell hds2 1 _ rfl
          have x3 := elem_cell hds2 2 _ rfl
          have x4 := elem_cell hds2 3 _ rfl
          have HAL := hid (show (r.put.take (j + 1)).all (fun r => decide (r.pat.size ≤ 300)) = ((r.put.take j).all (fun r => decide (r.pat.size ≤ 300)) && decide (y.pat.size ≤ 300)) by rw [List.take_add_one, hy, Option.toList_some, List.all_append]; simp)
          have HBAD := hid (fun (h : decide (y.pat.size ≤ 300) = false) => (show r.put.all (fun r => decide (r.pat.size ≤ 300)) = false by rw [List.all_eq_false]; exact ⟨y, List.mem_of_getElem? hy, by simp only [h]; simp⟩))
          clear hds hK hds2 hy hbR hrw
          by_cases k3 : y.pat.size ≤ 300
          · have k3' : ¬ (300 : Int) < (y.pat.size : Int) := by omega
            have HN := hid (show (r.put.take (j + 1)).all (fun r => decide (r.pat.size ≤ 300)) = true by rw [HAL.out, HP2.out, decide_eq_true k3]; rfl)
            have HCN := hid (HC2.out.alloc (.cells #[.int .i64 y.id, .int .i64 y.pri, .int .i64 y.act, .int .i64 y.scope, .string y.pat] 54))
            clear k3
            go_wp2_with fail
            go_roundw
            case measure => simp [intOf]; omega
            case rel => first | exact ⟨j + 1, hlt, by go_num, HN.out, HCN.out⟩ | ((repeat apply Exists.intro); exact ⟨⟨j + 1, hlt, by go_num, HN.out, HCN.out⟩, rfl⟩)
          · have k3' : (300 : Int) < (y.pat.size : Int) := by omega
            have G := hid (HNO.out (show smallE r = false by rw [GE.out]; exact HBAD.out (decide_eq_false k3)))
            clear k3
            go_wp2_with fail
            go_ret
            exact ⟨by rw [G.out]; rfl, (CWW.out.trans HC2.out (fun _ h _ => h)).alloc _⟩
        · have hkn : ¬ (j : Int) < (m1 : Int) := by omega
          have HS := hid (show smallE r = true by
            have hp := HP2.out
            rw [List.take_of_length_le (by have := M1.out; omega)] at hp
            rw [GE.out, hp])
          have HN := hid (show (xs.take (k + 1)).all (fun e => smallE e) = true by rw [HAK.out, HP.out, HS.out]; rfl)
          have HCN := hid (CWW.out.trans HC2.out (fun _ h _ => h))
          go_wp2_with fail
          go_roundw
          case measure => simp [intOf]; omega
          case rel => first | exact ⟨k + 1, by omega, by go_num, HN.out, HCN.out⟩ | ((repeat apply Exists.intro); exact ⟨⟨k + 1, by omega, by go_num, HN.out, HCN.out⟩, rfl⟩)
    · have hkn : ¬ (k : Int) < (n : Int) := by omega
      have HF := hid (show smallR xs = decide (xs.length ≤ 70) by
        have hp := HP.out
        rw [List.take_of_length_le (by have := L1.out; omega)] at hp
        unfold smallR
        rw [hp]
        rfl)
      by_cases k7 : (n : Int) ≤ 70
      · go_wp2_with fail
        go_ret
        exact ⟨by rw [HF.out, decide_eq_true (by have := L1.out; omega)]; simp [k7], HC.out⟩
      · have k7' : decide ((n : Int) ≤ 70) = false := decide_eq_false k7
        go_wp2_with fail
        go_ret
        exact ⟨by rw [HF.out, decide_eq_false (by have := L1.out; omega)]; simp [k7'], HC.out⟩
end Go.Proofs.Ytfpjickdkkhndaa.Pa


/- The anchor of the statements about packs; how bytes are compared. -/

namespace Go.Proofs.Ytfpjickdkkhndaa.Pa

set_option linter.unusedVariables false

set_option linter.unusedSimpArgs false

open Go.RowKit Go.Proofs.Ytfpjickdkkhndaa.C

attribute [local go_sem] max2_int min2_int max_two min_two

set_option maxRecDepth 100000 in
/-- Bytes of one's own as a string. -/
theorem Byt.str {w w' : World} {S : Nat → Prop} {A : Option Addr} {n c : Nat} {x : List UInt8} (h : Byt w S (.slice A n c) x) {M : Nat → Prop} (hc : Chg M w w') (hd : ∀ k, S k → ¬ M k) : (convert 36 9 (.slice A n c)).run Try.prog w' = .ok (.string (bstr x)) w' := by
  have h2 := (h.chg hc hd).row
  obtain ⟨A', c', hv, q1, q2, q3, q4⟩ := own_sees h2
  injection hv with e1 e2 e3
  subst e1 e3
  exact str_run Try.underlying36 Try.underlying5 Try.underlying9 e2 q4 q3 (by omega)
theorem Byt.at {w : World} {S : Nat → Prop} {A : Option Addr} {n c : Nat} {x : List UInt8} (h : Byt w S (.slice A n c) x) : Ty.At Ty.u8 w S A n c x := by
  obtain ⟨A', c', hv, q1, q2, q3, q4⟩ := own_sees h.row
  injection hv with e1 e2 e3
  subst e1 e3
  exact Ty.At.of_bytes e2 (by omega) q2 q3 (q4.mono (fun k hk => h.rowS k hk))
def anchorR : Rec := ⟨1, 5, 3, []⟩
theorem anchorB : recB anchorR = [0, 0, 0, 0, 0, 2, 0, 0, 0, 0, 0, 6, 0, 0, 0, 0, 0, 4, 0, 0, 0, 0, 0, 1] := by decide

end Go.Proofs.Ytfpjickdkkhndaa.Pa


/- How the types of packs open. -/

namespace Go.Proofs.Ytfpjickdkkhndaa.Pa

set_option linter.unusedVariables false

open Go.RowKit Go.Proofs.Ytfpjickdkkhndaa.C

theorem Opens.conv {P : Program} {t : TypeId} {α β : Type} {d : Ty α} {d' : Ty β} (h : Opens P t d) (hs : d'.sz = d.sz) (f : ∀ {w : World} {S : Nat → Prop} {x : α} {cs : List Value}, d.K w S x cs → ∃ y, d'.K w S y cs) : Opens P t d' :=
  ⟨h.size.trans hs.symm, fun enc w spare held fuel cs x hx => by
    obtain ⟨v, hv⟩ := h.opens enc w spare held fuel cs x hx
    exact f hv⟩
def msgK : Ty Msg := Ty.iso (Ty.pair (Ty.int .i64) (Ty.pair (Ty.int .i64) (Ty.pair (Ty.int .i64) (Ty.pair (Ty.int .i64) (Ty.pair (Ty.int .i64) (Ty.pair (Ty.int .i64) (Ty.pair (Ty.int .i64) (Ty.slice entryK)))))))) (fun m => (m.kind, m.view, m.src, m.dst, m.op, m.commit, m.normal, m.log))
def recK : Ty Rec := Ty.iso (Ty.pair (Ty.int .i64) (Ty.pair (Ty.int .i64) (Ty.pair (Ty.int .i64) (Ty.slice entryK)))) (fun m => (m.kind, m.a, m.b, m.log))
theorem msg_open {w : World} {S : Nat → Prop} {m : Msg} {cs : Array Value} (h : msgK.K w S m cs.toList) : ∃ A n c, cs = #[.int .i64 m.kind, .int .i64 m.view, .int .i64 m.src, .int .i64 m.dst, .int .i64 m.op, .int .i64 m.commit, .int .i64 m.normal, .slice A n c] ∧ Ty.At entryK w S A n c m.log := by
  obtain ⟨_, _, e1, ⟨rfl, w1⟩, _, _, rfl, ⟨rfl, w2⟩, _, _, rfl, ⟨rfl, w3⟩, _, _, rfl, ⟨rfl, w4⟩, _, _, rfl, ⟨rfl, w5⟩, _, _, rfl, ⟨rfl, w6⟩, _, _, rfl, ⟨rfl, w7⟩, A, n, c, rfl, h⟩ := h
  exact ⟨A, n, c, Array.ext' e1, h⟩
theorem rec_open {w : World} {S : Nat → Prop} {m : Rec} {cs : Array Value} (h : recK.K w S m cs.toList) : ∃ A n c, cs = #[.int .i64 m.kind, .int .i64 m.a, .int .i64 m.b, .slice A n c] ∧ Ty.At entryK w S A n c m.log := by
  obtain ⟨_, _, e1, ⟨rfl, w1⟩, _, _, rfl, ⟨rfl, w2⟩, _, _, rfl, ⟨rfl, w3⟩, A, n, c, rfl, h⟩ := h
  exact ⟨A, n, c, Array.ext' e1, h⟩
theorem opens_int_ : Opens Try.prog 3 (Ty.int .i64) := opens_int Try.underlying3 (by kernel_rfl)
theorem opens_string_ : Opens Try.prog 9 Ty.str := opens_str Try.underlying9 (by kernel_rfl)
theorem opens_rule : Opens Try.prog 54 ruleK := opens_struct Try.underlying54 (by kernel_rfl) (opensF_cons rfl rfl opens_int_ (opensF_cons rfl rfl opens_int_ (opensF_cons rfl rfl opens_int_ (opensF_cons rfl rfl opens_int_ (opensF_last rfl rfl opens_string_))))) (fun r : Rule => (r.id, r.pri, r.act, r.scope, r.pat)) (fun p => ⟨p.1, p.2.1, p.2.2.1, p.2.2.2.1, p.2.2.2.2⟩) (fun _ => rfl)
theorem opens_rules : Opens Try.prog 47 (Ty.slice ruleK) := opens_slice Try.underlying47 (by kernel_rfl) opens_rule (by decide)
theorem opens_nums : Opens Try.prog 48 (Ty.slice (Ty.int .i64)) := opens_slice Try.underlying48 (by kernel_rfl) opens_int_ (by decide)
def deltaP : Ty (Int × Int × Int × Int × List Rule × List Int) := Ty.pair (Ty.int .i64) (Ty.pair (Ty.int .i64) (Ty.pair (Ty.int .i64) (Ty.pair (Ty.int .i64) (Ty.pair (Ty.slice ruleK) (Ty.slice (Ty.int .i64))))))
theorem opens_delta : Opens Try.prog 50 deltaP := Opens.conv (opens_struct Try.underlying50 (by kernel_rfl) (opensF_cons rfl rfl opens_int_ (opensF_cons rfl rfl opens_int_ (opensF_cons rfl rfl opens_int_ (opensF_cons rfl rfl opens_int_ (opensF_cons rfl rfl opens_rules (opensF_last rfl rfl opens_nums)))))) (fun x => x) (fun x => x) (fun _ => rfl)) rfl (fun {w S x cs} h => ⟨x, h⟩)
theorem opens_entry : Opens Try.prog 52 entryK := opens_struct Try.underlying52 (by kernel_rfl) (opensF_cons rfl rfl opens_int_ (opensF_cons rfl rfl opens_int_ (opensF_cons rfl rfl opens_int_ (opensF_last rfl rfl opens_delta)))) (fun e : Entry => (e.view, e.client, e.request, e.dflt, e.closed, e.fuel, e.stack, e.put, e.drop)) (fun p => ⟨p.1, p.2.1, p.2.2.1, p.2.2.2.1, p.2.2.2.2.1, p.2.2.2.2.2.1, p.2.2.2.2.2.2.1, p.2.2.2.2.2.2.2.1, p.2.2.2.2.2.2.2.2⟩) (fun _ => rfl)
theorem opens_entries : Opens Try.prog 30 (Ty.slice entryK) := opens_slice Try.underlying30 (by kernel_rfl) opens_entry (by decide)
theorem opens_rec : Opens Try.prog 62 recK := opens_struct Try.underlying62 (by kernel_rfl) (opensF_cons rfl rfl opens_int_ (opensF_cons rfl rfl opens_int_ (opensF_cons rfl rfl opens_int_ (opensF_last rfl rfl opens_entries)))) (fun m : Rec => (m.kind, m.a, m.b, m.log)) (fun p => ⟨p.1, p.2.1, p.2.2.1, p.2.2.2⟩) (fun _ => rfl)
end Go.Proofs.Ytfpjickdkkhndaa.Pa


/- Contracts of tape.Tape's methods. -/

namespace Go.Proofs.Ytfpjickdkkhndaa.T

set_option linter.unusedVariables false

set_option linter.unusedSimpArgs false

open Go.RowKit Go.Proofs.Ytfpjickdkkhndaa.C

attribute [local go_sem] max2_int min2_int max_two min_two

/-- A tape as plain data. -/
structure TS where
  b : List UInt8
  safe : Int
  room : Int
  left : Int
  down : Bool

def tcells (v : Value) (T : TS) : Array Value := #[v, .int .i64 T.safe, .int .i64 T.room, .int .i64 T.left, .bool T.down]

/-- What a tape's fields keep to. -/
structure TS.Ok (T : TS) : Prop where
  s0 : 0 ≤ T.safe
  s1 : T.safe ≤ T.b.length
  r0 : (T.b.length : Int) ≤ T.room
  r1 : T.room ≤ 1048576
  l0 : -1 ≤ T.left
  l1 : T.left ≤ 9223372036854775807

/-- The tape T lies at block g; all its blocks are in S. -/
structure TapeAt (w : World) (S : Nat → Prop) (g : Nat) (v : Value) (T : TS) : Prop where
  inS : S g
  blk : w.heap[g]? = some (.cells (tcells v T) 72 (0, 0))
  row : w.ownsRow 0 5 1 v T.b.length (u8s T.b)
  rowS : ∀ k, v.ownBlock = some k → S k

theorem TapeAt.ne {w : World} {S : Nat → Prop} {g : Nat} {v : Value} {T : TS} (h : TapeAt w S g v T) : v.ownBlock ≠ some g := own_ne h.row h.blk (by decide)
theorem TapeAt.cells {w : World} {S : Nat → Prop} {g : Nat} {v : Value} {T : TS} (h : TapeAt w S g v T) :
    w.cell? ⟨g, 0, none⟩ = some v ∧ w.cell? ⟨g, 1, none⟩ = some (.int .i64 T.safe) ∧ w.cell? ⟨g, 2, none⟩ = some (.int .i64 T.room) ∧ w.cell? ⟨g, 3, none⟩ = some (.int .i64 T.left) ∧ w.cell? ⟨g, 4, none⟩ = some (.bool T.down) := by
  refine ⟨?_, ?_, ?_, ?_, ?_⟩ <;> (rw [cellAt h.blk]; rfl)
theorem TapeAt.free {w : World} {S : Nat → Prop} {g : Nat} {v : Value} {T : TS} (h : TapeAt w S g v T) (i : Nat) : w.frozen? ⟨g, i, none⟩ = false := freeAt h.blk i
theorem TapeAt.chg {w w' : World} {S M : Nat → Prop} {g : Nat} {v : Value} {T : TS} (h : TapeAt w S g v T) (hc : Chg M w w') (hd : ∀ k, S k → ¬ M k) : TapeAt w' S g v T :=
  ⟨h.inS, hc.blk h.blk (hd _ h.inS), hc.own h.row (fun k hk => hd _ (h.rowS k hk)), h.rowS⟩
theorem TapeAt.mono {w : World} {S S' : Nat → Prop} {g : Nat} {v : Value} {T : TS} (h : TapeAt w S g v T) (hS : ∀ k, k < w.heap.size → S k → S' k) : TapeAt w S' g v T :=
  ⟨hS _ (lt_of_blk h.blk) h.inS, h.blk, h.row, fun k hk => hS _ (own_lt h.row k hk) (h.rowS k hk)⟩

theorem info5 : (Try.prog.info? 5).map (fun i => (i.zero, i.size, i.bytes)) = some (some (.int .u8 0), 1, 1) := by kernel_rfl

def TS.called (T : TS) : TS := { T with down := T.left == 0, left := mx (T.left - 1) (-1) }

set_option maxHeartbeats 400000 in
theorem call_any (S : Nat → Prop) (g : Nat) (v : Value) (T : TS) (w : World) (h : TapeAt w S g v T) (hok : T.Ok) :
    Calls Try.prog 41 #[.pointer (some ⟨g, 0, none⟩)] w fun e w' => e = .returned (.bool (!(T.left == 0))) ∧ TapeAt w' S g v T.called ∧ Chg (fun k => k = g) w w' := by
  have H := hid h
  obtain ⟨_, _, _, c3, c4⟩ := h.cells
  have f3 := h.free 3
  have f4 := h.free 4
  have l0 := hok.l0
  have l1 := hok.l1
  clear h hok
  have hend : TapeAt ((w.setCell ⟨g, 4, none⟩ (.bool (T.left == 0))).setCell ⟨g, 3, none⟩ (.int .i64 (mx (T.left - 1) (-1)))) S g v T.called ∧ Chg (fun k => k = g) w ((w.setCell ⟨g, 4, none⟩ (.bool (T.left == 0))).setCell ⟨g, 3, none⟩ (.int .i64 (mx (T.left - 1) (-1)))) := by
    have h := H.out
    have hc : Chg (fun k => k = g) w ((w.setCell ⟨g, 4, none⟩ (.bool (T.left == 0))).setCell ⟨g, 3, none⟩ (.int .i64 (mx (T.left - 1) (-1)))) := ((Chg.refl (fun k => k = g) w).set (fun _ => rfl) _).set (fun _ => rfl) _
    refine ⟨⟨h.inS, ?_, ?_, h.rowS⟩, hc⟩
    · exact blk_set (blk_set h.blk 4 _) 3 _
    · exact hc.own h.row (fun k hk => by rintro rfl; exact h.ne hk)
  have HE := hid hend
  clear hend
  go_enter Try.func41, Try.ntmps41
  go_wp2
  go_ret
  exact ⟨rfl, HE.out⟩

set_option maxHeartbeats 400000 in
theorem new_any (room : Int) (w : World) (h0 : 0 ≤ room) (h1 : room ≤ 1048576) :
    Calls Try.prog 9 #[.int .i64 room] w fun e w' => e = .returned (.pointer (some ⟨w.heap.size, 0, none⟩)) ∧ TapeAt w' (fun k => w.heap.size ≤ k) w.heap.size (.slice none 0 0) ⟨[], 0, room, -1, false⟩ ∧ Chg (fun _ => False) w w' := by
  have hend : TapeAt (w.alloc (.cells (tcells (.slice none 0 0) ⟨[], 0, room, -1, false⟩) 72)) (fun k => w.heap.size ≤ k) w.heap.size (.slice none 0 0) ⟨[], 0, room, -1, false⟩ ∧ Chg (fun _ => False) w (w.alloc (.cells (tcells (.slice none 0 0) ⟨[], 0, room, -1, false⟩) 72)) :=
    ⟨⟨Nat.le_refl _, blk_new _ _, own_nil _ _ _, fun k hk => by simp [Value.ownBlock] at hk⟩, (Chg.refl _ w).alloc _⟩
  have HE := hid hend
  clear hend
  go_enter Try.func9, Try.ntmps9
  go_wp2
  go_ret
  exact ⟨rfl, HE.out⟩
set_option maxHeartbeats 400000 in
theorem new_no (room : Int) (w : World) (h : room < 0 ∨ 1048576 < room) :
    Calls Try.prog 9 #[.int .i64 room] w fun e w' => e = .returned (.pointer none) ∧ w = w' := by
  rcases h with h | h
  · go_enter Try.func9, Try.ntmps9
    go_wp2
    go_ret
    exact ⟨rfl, rfl⟩
  · have h' : ¬ room < 0 := by omega
    go_enter Try.func9, Try.ntmps9
    go_wp2
    go_ret
    exact ⟨rfl, rfl⟩

set_option maxHeartbeats 400000 in
theorem safe_any (S : Nat → Prop) (g : Nat) (v : Value) (T : TS) (w : World) (h : TapeAt w S g v T) :
    Calls Try.prog 17 #[.pointer (some ⟨g, 0, none⟩)] w fun e w' => e = .returned (.int .i64 T.safe) ∧ w = w' := by
  obtain ⟨_, c1, _, _, _⟩ := h.cells
  clear h
  go_enter Try.func17, Try.ntmps17
  go_wp2
  go_ret
  exact ⟨rfl, rfl⟩
set_option maxHeartbeats 400000 in
theorem arm_any (S : Nat → Prop) (g : Nat) (v : Value) (T : TS) (n : Int) (w : World) (h : TapeAt w S g v T) :
    Calls Try.prog 22 #[.pointer (some ⟨g, 0, none⟩), .int .i64 n] w fun e w' => e = .returned (.tuple #[]) ∧ TapeAt w' S g v { T with left := mx n (-1) } ∧ Chg (fun k => k = g) w w' := by
  have f3 := h.free 3
  obtain ⟨_, _, _, c3, _⟩ := h.cells
  have hend : TapeAt (w.setCell ⟨g, 3, none⟩ (.int .i64 (mx n (-1)))) S g v { T with left := mx n (-1) } ∧ Chg (fun k => k = g) w (w.setCell ⟨g, 3, none⟩ (.int .i64 (mx n (-1)))) := by
    have hc : Chg (fun k => k = g) w (w.setCell ⟨g, 3, none⟩ (.int .i64 (mx n (-1)))) := (Chg.refl (fun k => k = g) w).set (fun _ => rfl) _
    exact ⟨⟨h.inS, blk_set h.blk 3 _, hc.own h.row (fun k hk => by rintro rfl; exact h.ne hk), h.rowS⟩, hc⟩
  have HE := hid hend
  clear hend h
  go_enter Try.func22, Try.ntmps22
  go_wp2
  go_end0
  exact ⟨rfl, HE.out⟩

set_option maxHeartbeats 400000 in
theorem room_any (S : Nat → Prop) (g : Nat) (v : Value) (T : TS) (w : World) (h : TapeAt w S g v T) (hok : T.Ok) :
    Calls Try.prog 40 #[.pointer (some ⟨g, 0, none⟩)] w fun e w' => e = .returned (.int .i64 (T.room - T.b.length)) ∧ ∃ n, w' = w.drewN n := by
  obtain ⟨A, c, hv, _⟩ := own_sees h.row
  subst hv
  obtain ⟨c0, _, c2, _, _⟩ := h.cells
  have r0 := hok.r0
  have r1 := hok.r1
  clear h hok
  have er : IntKind.i64.wrap (T.room - (T.b.length : Int)) = T.room - (T.b.length : Int) := IntWalk.i64_in _ (by omega)
  go_enter Try.func40, Try.ntmps40
  go_wp2
  go_quiet (fail)
  go_wp2
  go_ret
  exact ⟨rfl, ⟨_, rfl⟩⟩

set_option maxHeartbeats 400000 in
/-- slices.Clone of bytes. -/
theorem clone_any (A : Option Addr) (l : List UInt8) (n c : Nat) (S : Nat → Prop) (w : World) (hA : A = none → c = 0) (hn : n = l.length) (hc : n ≤ c) (hs : Sees w S A (u8s l)) (hl : n ≤ 140737488355328) :
    Calls Try.prog 53 #[.slice A n c] w fun e w' => ∃ v, e = .returned v ∧ w'.ownsRow 0 5 1 v n (u8s l) ∧ Chg (fun _ => False) w w' ∧ (∀ k, v.ownBlock = some k → w.heap.size ≤ k) := by
  cases A with
  | none =>
    have := hA rfl
    subst this
    have : l = [] := List.eq_nil_of_length_eq_zero (by omega)
    subst this
    have : n = 0 := by omega
    subst this
    have e1 := fun w => run_eql_slice_nil (P := Try.prog) w 36 5 none 0 0 Try.underlying36
    clear hA hn hc hs hl
    go_enter Try.func53, Try.ntmps53
    go_wp2
    go_ret
    exact ⟨_, rfl, own_nil _ _ _, Chg.refl _ _, fun k hk => by simp [Value.ownBlock] at hk⟩
  | some a =>
    have e1 := fun w => run_eql_slice_nil (P := Try.prog) w 36 5 (some a) n c Try.underlying36
    have ho : (w.alloc (.cells #[] 5)).ownsRow 0 5 1 (.slice (some ⟨w.heap.size, 0, none⟩) 0 0) 0 [] := World.ownsRow_lit (base := 0) (e := 5) (size := 1) w #[] 0 (Nat.zero_le _) (by simp [maxLen]) rfl
    have H1 := hid hs
    have H2 := hid hn
    have H3 := hid hc
    have H4 := hid hl
    have H5 := hid ho
    clear hs hn hc hl hA ho
    go_enter Try.func53, Try.ntmps53
    go_wp2_with (first | (at_builtin; refine app_list _ rfl (.tmp 5) (.tmp 6) 36 5 (.int .u8 0) 1 1 rfl Try.underlying36 info5 rfl (by decide) (by decide) (.slice (some ⟨w.heap.size, 0, none⟩) 0 0) 0 [] rfl H5.out (some a) n c (u8s l) S rfl (by simp) H3.out (by rw [u8s_length, H2.out]; omega) (H1.out.chg ((Chg.refl (fun _ => False) w).alloc _) (fun _ _ h => h)) (u8s_one l) (by have := H4.out; omega) ?_; intro A' c' w' h1 h2 h3; have G1 := hid h1; have G2 := hid h2; have G3 := hid h3; clear h1 h2 h3))
    go_ret
    have g1 := G1.out
    have g3 := G3.out
    rw [Nat.zero_add] at g1 g3
    refine ⟨.slice A' n c', rfl, by simpa using g1, ?_, ?_⟩
    · exact ((Chg.refl (fun _ => False) w).alloc _).trans G2.out (fun i hi hlt => by simp [Value.ownBlock] at hi; omega)
    · intro k hk
      rcases g3 k hk with h | h
      · simp [Value.ownBlock] at h; omega
      · simp at h; omega

/-- A new row of bytes is laid into the tape. -/
theorem put_row {w1 w' : World} {S : Nat → Prop} {g N : Nat} {v v' : Value} {T : TS} {b : List UInt8} (h : TapeAt w1 S g v T) (hg : Chg (fun k => v.ownBlock = some k) w1 w') (ho : w'.ownsRow 0 5 1 v' b.length (u8s b))
    (hv : ∀ k, v'.ownBlock = some k → v.ownBlock = some k ∨ w1.heap.size ≤ k) (hN : N ≤ w1.heap.size) :
    TapeAt (w'.setCell ⟨g, 0, none⟩ v') (fun k => S k ∨ N ≤ k) g v' { T with b := b } ∧ Chg S w1 (w'.setCell ⟨g, 0, none⟩ v') := by
  have hb : w'.heap[g]? = some (.cells (tcells v T) 72 (0, 0)) := hg.blk h.blk h.ne
  have hne : v'.ownBlock ≠ some g := own_ne ho hb (by decide)
  refine ⟨⟨.inl h.inS, blk_set hb 0 v', ?_, fun k hk => ?_⟩, ?_⟩
  · exact ((Chg.refl (fun k => k = g) w').set (fun _ => rfl) _).own ho (fun k hk => by rintro rfl; exact hne hk)
  · rcases hv k hk with h' | h'
    · exact .inl (h.rowS k h')
    · exact .inr (by omega)
  · exact ((hg.mono (fun k hk _ => h.rowS k hk)).set (fun _ => h.inS) _)

/-- The tape T lies at g now; what had to be made is new. -/
def Upd (S : Nat → Prop) (g : Nat) (T : TS) (w w' : World) : Prop := ∃ v', TapeAt w' (fun k => S k ∨ w.heap.size ≤ k) g v' T ∧ Chg S w w'

/-- Append. -/
def TS.append (T : TS) (l : List UInt8) : TS × Int :=
  if T.down then (T, 40) else if T.room - T.b.length < l.length then (T, 41)
  else ({ T.called with b := T.b ++ l }, if T.left == 0 then 40 else 0)

set_option maxHeartbeats 1000000 in
theorem append_any (S R : Nat → Prop) (g : Nat) (v : Value) (T : TS) (A : Option Addr) (n c : Nat) (l : List UInt8) (w : World) (h : TapeAt w S g v T) (hok : T.Ok) (hA : A = none → c = 0) (hn : n = l.length) (hc : n ≤ c) (hs : Sees w R A (u8s l)) (hR : ∀ k, R k → ¬ S k) :
    Calls Try.prog 19 #[.pointer (some ⟨g, 0, none⟩), .slice A n c] w fun e w' => e = .returned (.int .i64 (T.append l).2) ∧ Upd S g (T.append l).1 w w' := by
  have c4 := h.cells.2.2.2.2
  have H := hid h
  have HOK := hid hok
  have r1 := hok.r1
  clear hok
  have hsame : TapeAt w (fun k => S k ∨ w.heap.size ≤ k) g v T := h.mono (fun k _ hk => .inl hk)
  have HS := hid hsame
  clear hsame
  by_cases hd : T.down = true
  · have e : T.append l = (T, 40) := by simp [TS.append, hd]
    have E := hid e
    clear e h
    rw [hd] at c4
    clear hd
    go_enter Try.func19, Try.ntmps19
    go_wp2
    go_ret
    exact ⟨by rw [E.out]; rfl, v, by rw [E.out]; exact HS.out, Chg.refl _ _⟩
  · have hd' : T.down = false := by simpa using hd
    clear hd
    by_cases hr : T.room - T.b.length < l.length
    · have e : T.append l = (T, 41) := by simp [TS.append, hd', hr]
      have E := hid e
      clear e h
      rw [hd'] at c4
      have ht : decide (T.room - (T.b.length : Int) < (n : Int)) = true := by rw [hn]; simpa using hr
      clear hd' hr
      have HN := hid hn
      clear hn
      go_enter Try.func19, Try.ntmps19
      go_wp2_with (first | (go_at_call 40; refine (room_any _ _ _ _ _ H.out HOK.out).mono ?_; rintro e w1 ⟨rfl, m, rfl⟩))
      go_ret
      refine ⟨by rw [E.out]; rfl, v, by rw [E.out]; exact HS.out.chg ((Chg.refl (fun _ => False) w).drewN _) (fun _ _ h => h), (Chg.refl _ _).drewN _⟩
    · have e : T.append l = ({ T.called with b := T.b ++ l }, if T.left == 0 then 40 else 0) := by simp [TS.append, hd', hr]
      have E := hid e
      have hlen : (n : Int) ≤ T.room - T.b.length := by omega
      have ht : decide (T.room - (T.b.length : Int) < (n : Int)) = false := by simpa using hlen
      have hrn := hid hlen
      clear e h hr hlen
      rw [hd'] at c4
      clear hd'
      have HN := hid hn
      have HR := hid hR
      have HSE := hid hs
      have HC := hid hc
      have R1 := hid r1
      clear hn hR hs hc r1
      go_enter Try.func19, Try.ntmps19
      go_wp2_with (first | (go_at_call 40; refine (room_any _ _ _ _ _ H.out HOK.out).mono ?_; rintro e w1 ⟨rfl, m, rfl⟩; have H2 := hid (H.out.chg ((Chg.refl (fun _ => False) w).drewN m) (fun _ _ h => h))) | (go_at_call 41; refine (call_any _ _ _ _ _ H2.out HOK.out).mono ?_; rintro e w1 ⟨rfl, h3, h4⟩; have H3 := hid h3; have H4 := hid h4; have c0 := h3.cells.1; have f0 := h3.free 0; clear h3 h4) | (at_builtin; refine app_list _ rfl (.tmp 23) (.tmp 24) 36 5 (.int .u8 0) 1 1 rfl Try.underlying36 info5 rfl (by decide) (by decide) v _ _ rfl H3.out.row A n c (u8s l) R rfl hA HC.out (by rw [u8s_length, HN.out]; omega) ((HSE.out.chg ((Chg.refl (fun _ => False) w).drewN m) (fun _ _ h => h)).chg H4.out (fun k hk => by rintro rfl; exact HR.out _ hk H.out.inS)) (u8s_one l) (by have := hrn.out; have := R1.out; simp only [TS.called]; omega) ?_; intro A' c' w' h1 h2 h3; have G1 := hid h1; have G2 := hid h2; have G3 := hid h3; have f0' : w'.frozen? ⟨g, 0, none⟩ = false := freeAt (h2.blk H3.out.blk H3.out.ne) 0; have c0' : w'.cell? ⟨g, 0, none⟩ = some v := (by rw [cellAt (h2.blk H3.out.blk H3.out.ne)]; rfl); clear h1 h2 h3 c0 f0))
      all_goals
        go_ret
        have P := put_row (b := T.b ++ l) (N := w.heap.size) H3.out G2.out (by have := G1.out; rw [List.length_append, ← HN.out, u8s_append]; exact this) G3.out H4.out.size
        refine ⟨by rw [E.out]; simp_all, _, by rw [E.out]; exact P.1, ?_⟩
        exact (((Chg.refl S w).drewN m).trans H4.out (fun i hi _ => by subst hi; exact H.out.inS)).trans P.2 (fun _ h _ => h)

def TS.sync (T : TS) : TS × Int := if T.down then (T, 40) else if T.left == 0 then (T.called, 40) else ({ T.called with safe := T.b.length }, 0)

set_option maxHeartbeats 1000000 in
theorem sync_any (S : Nat → Prop) (g : Nat) (v : Value) (T : TS) (w : World) (h : TapeAt w S g v T) (hok : T.Ok) :
    Calls Try.prog 20 #[.pointer (some ⟨g, 0, none⟩)] w fun e w' => e = .returned (.int .i64 T.sync.2) ∧ TapeAt w' S g v T.sync.1 ∧ Chg S w w' := by
  have c4 := h.cells.2.2.2.2
  have H := hid h
  have HOK := hid hok
  clear hok
  by_cases hd : T.down = true
  · have e : T.sync = (T, 40) := by simp [TS.sync, hd]
    have E := hid e
    clear e h
    rw [hd] at c4
    clear hd
    go_enter Try.func20, Try.ntmps20
    go_wp2
    go_ret
    exact ⟨by rw [E.out]; rfl, by rw [E.out]; exact H.out, Chg.refl _ _⟩
  · have hd' : T.down = false := by simpa using hd
    clear hd
    rw [hd'] at c4
    have e : T.sync = (if T.left == 0 then (T.called, 40) else ({ T.called with safe := T.b.length }, 0)) := by simp [TS.sync, hd']
    have E := hid e
    clear e h hd'
    by_cases hl : (T.left == 0) = true
    · have L := hid hl
      clear hl
      go_enter Try.func20, Try.ntmps20
      go_wp2_with (first | (go_at_call 41; refine (call_any _ _ _ _ _ H.out HOK.out).mono ?_; rintro e w1 ⟨rfl, h3, h4⟩; rw [L.out]; have H3 := hid h3; have H4 := hid h4; clear h3 h4))
      go_ret
      exact ⟨by rw [E.out, if_pos L.out]; rfl, by rw [E.out, if_pos L.out]; exact H3.out, H4.out.mono (fun i hi _ => by subst hi; exact H.out.inS)⟩
    · have hl' : (T.left == 0) = false := by simpa using hl
      have L := hid hl'
      clear hl hl'
      obtain ⟨A, c, hv, _⟩ := own_sees H.out.row
      subst hv
      go_enter Try.func20, Try.ntmps20
      go_wp2_with (first | (go_at_call 41; refine (call_any _ _ _ _ _ H.out HOK.out).mono ?_; rintro e w1 ⟨rfl, h3, h4⟩; rw [L.out]; have H3 := hid h3; have H4 := hid h4; have c0 := h3.cells.1; have c1 := h3.cells.2.1; have f1 := h3.free 1; clear h3 h4))
      go_ret
      have L' : ¬ (T.left == 0) = true := by rw [L.out]; decide
      have hc : Chg (fun k => k = g) w1 (w1.setCell ⟨g, 1, none⟩ (.int .i64 T.b.length)) := (Chg.refl (fun k => k = g) w1).set (fun _ => rfl) _
      refine ⟨by rw [E.out, if_neg L']; rfl, by rw [E.out, if_neg L']; exact ⟨H3.out.inS, blk_set H3.out.blk 1 _, hc.own H3.out.row (fun k hk => by rintro rfl; exact H3.out.ne hk), H3.out.rowS⟩, ?_⟩
      exact (H4.out.mono (fun i hi _ => by subst hi; exact H.out.inS)).trans hc (fun i hi _ => by subst hi; exact H.out.inS)

def TS.trim (T : TS) (n : Int) : TS × Int := if T.down then (T, 40) else if n < 0 ∨ (T.b.length : Int) < n then (T, 13) else if T.left == 0 then (T.called, 40) else ({ T.called with b := T.b.take n.toNat, safe := n }, 0)

set_option maxHeartbeats 1000000 in
theorem trim_any (S : Nat → Prop) (g : Nat) (v : Value) (T : TS) (n : Int) (w : World) (h : TapeAt w S g v T) (hok : T.Ok) :
    Calls Try.prog 33 #[.pointer (some ⟨g, 0, none⟩), .int .i64 n] w fun e w' => e = .returned (.int .i64 (T.trim n).2) ∧ Upd S g (T.trim n).1 w w' := by
  have c4 := h.cells.2.2.2.2
  have H := hid h
  have HOK := hid hok
  clear hok
  have hsame : TapeAt w (fun k => S k ∨ w.heap.size ≤ k) g v T := h.mono (fun k _ hk => .inl hk)
  have HS := hid hsame
  clear hsame
  obtain ⟨A, c, hv, hc1, hc2, hc3, hc4⟩ := own_sees h.row
  subst hv
  by_cases hd : T.down = true
  · have e : T.trim n = (T, 40) := by simp [TS.trim, hd]
    have E := hid e
    clear e h hc1 hc2 hc3 hc4
    rw [hd] at c4
    clear hd
    go_enter Try.func33, Try.ntmps33
    go_wp2
    go_ret
    exact ⟨by rw [E.out]; rfl, _, by rw [E.out]; exact HS.out, Chg.refl _ _⟩
  · have hd' : T.down = false := by simpa using hd
    clear hd
    rw [hd'] at c4
    by_cases hr : n < 0 ∨ (T.b.length : Int) < n
    · have e : T.trim n = (T, 13) := by simp [TS.trim, hd', hr]
      have E := hid e
      have c0 := h.cells.1
      clear e h hd' hc1 hc2 hc3 hc4
      rcases hr with hr | hr
      · go_enter Try.func33, Try.ntmps33
        go_wp2
        go_ret
        exact ⟨by rw [E.out]; rfl, _, by rw [E.out]; exact HS.out, Chg.refl _ _⟩
      · have h0 : ¬ n < 0 := by omega
        go_enter Try.func33, Try.ntmps33
        go_wp2
        go_ret
        exact ⟨by rw [E.out]; rfl, _, by rw [E.out]; exact HS.out, Chg.refl _ _⟩
    · have e : T.trim n = (if T.left == 0 then (T.called, 40) else ({ T.called with b := T.b.take n.toNat, safe := n }, 0)) := by simp [TS.trim, hd', hr]
      have E := hid e
      have c0 := h.cells.1
      have h0 : 0 ≤ n := by omega
      have h1 : n ≤ (T.b.length : Int) := by omega
      clear e hd' hr
      obtain ⟨m, rfl⟩ := Int.eq_ofNat_of_zero_le h0
      have h0' : ¬ (m : Int) < 0 := by omega
      have h1' : ¬ (T.b.length : Int) < (m : Int) := by omega
      have hml : m ≤ T.b.length := by omega
      have hmc : m ≤ c := by omega
      have HC3 := hid hc3
      have HC1 := hid hc1
      have HC2 := hid hc2
      clear h0 h1 hc4 hc3 h hc1 hc2
      by_cases hl : (T.left == 0) = true
      · have L := hid hl
        clear hl
        go_enter Try.func33, Try.ntmps33
        go_wp2_with (first | (go_at_call 41; refine (call_any _ _ _ _ _ H.out HOK.out).mono ?_; rintro e w1 ⟨rfl, h3, h4⟩; rw [L.out]; have H3 := hid h3; have H4 := hid h4; clear h3 h4))
        go_ret
        exact ⟨by rw [E.out, if_pos L.out]; rfl, _, by rw [E.out, if_pos L.out]; exact H3.out.mono (fun k _ hk => .inl hk), H4.out.mono (fun i hi _ => by subst hi; exact H.out.inS)⟩
      · have hl' : (T.left == 0) = false := by simpa using hl
        have L := hid hl'
        clear hl hl'
        have L' : ¬ (T.left == 0) = true := by rw [L.out]; decide
        have LL := hid L'
        clear L'
        obtain ⟨i5, hi5, _, hz5, _⟩ := info_parts info5
        have hcut := cut_to (P := Try.prog) 36 5 .i64 Try.underlying36 hi5 A T.b.length c m hmc
        clear hi5 hz5
        go_enter Try.func33, Try.ntmps33
        go_wp2_with (first | (go_at_call 41; refine (call_any _ _ _ _ _ H.out HOK.out).mono ?_; rintro e w1 ⟨rfl, h3, h4⟩; rw [L.out]; have H3 := hid h3; have H4 := hid h4; have c0 := h3.cells.1; clear h3 h4) | (go_at_call 53; refine (clone_any A (T.b.take m) m c S w1 HC3.out (by rw [List.length_take]; omega) hmc ?cs (by have := HOK.out.r1; have := HOK.out.r0; omega)).mono ?_; (case cs => obtain ⟨A', c', hv, _, _, _, hs⟩ := own_sees H3.out.row; injection hv with hA' _ _; subst hA'; rw [u8s_take]; exact (hs.take m).mono (fun k hk => H3.out.rowS k hk)); rintro e w2 ⟨v2, rfl, h5, h6, h7⟩; obtain ⟨A2, c2, hv2, _⟩ := own_sees h5; subst hv2; have H5 := hid h5; have H6 := hid h6; have H7 := hid h7; have f0 : w2.frozen? ⟨g, 0, none⟩ = false := freeAt (h6.blk H3.out.blk (fun h => h)) 0; have c02 := (show w2.cell? ⟨g, 0, none⟩ = some (.slice A T.b.length c) from by rw [cellAt (h6.blk H3.out.blk (fun h => h))]; rfl); have f1 : w2.frozen? ⟨g, 1, none⟩ = false := freeAt (h6.blk H3.out.blk (fun h => h)) 1; have c12 := (show w2.cell? ⟨g, 1, none⟩ = some (.int .i64 T.safe) from by rw [cellAt (h6.blk H3.out.blk (fun h => h))]; rfl); clear h5 h6 h7))
        go_ret
        have P := put_row (b := T.b.take m) (N := w.heap.size) H3.out (H6.out.mono (fun _ h => h.elim)) (by rw [List.length_take, Nat.min_eq_left hml]; exact H5.out) (fun k hk => .inr (H7.out k hk)) H4.out.size
        have hc : Chg (fun k => k = g) (w2.setCell ⟨g, 0, none⟩ (.slice A2 m c2)) ((w2.setCell ⟨g, 0, none⟩ (.slice A2 m c2)).setCell ⟨g, 1, none⟩ (.int .i64 m)) := (Chg.refl (fun k => k = g) _).set (fun _ => rfl) _
        refine ⟨by rw [E.out, if_neg LL.out]; rfl, .slice A2 m c2, by rw [E.out, if_neg LL.out]; exact ⟨P.1.inS, blk_set P.1.blk 1 _, hc.own P.1.row (fun k hk => by rintro rfl; exact P.1.ne hk), P.1.rowS⟩, ?_⟩
        exact ((H4.out.mono (fun i hi _ => by subst hi; exact H.out.inS)).trans P.2 (fun _ h _ => h)).trans hc (fun i hi _ => by subst hi; exact H.out.inS)

set_option maxHeartbeats 1000000 in
theorem bytes_any (S : Nat → Prop) (g : Nat) (v : Value) (T : TS) (w : World) (h : TapeAt w S g v T) (hl : T.b.length ≤ 281474976710656) :
    Calls Try.prog 14 #[.pointer (some ⟨g, 0, none⟩)] w fun e w' => ∃ c, e = .returned (.slice (some ⟨w.heap.size, 0, none⟩) T.b.length c) ∧ w'.ownsRow 0 5 1 (.slice (some ⟨w.heap.size, 0, none⟩) T.b.length c) T.b.length (u8s T.b) ∧ Chg (fun _ => False) w w' := by
  have H := hid h
  obtain ⟨A, c, hv, hc1, hc2, hc3, hc4⟩ := own_sees h.row
  subst hv
  have c0 := h.cells.1
  have hmk := fun W => make_run (P := Try.prog) 36 5 (.int .u8 0) 1 Try.underlying36 info5 rfl (by decide) T.b.length (by omega) W
  have HM := hid (own_made w 5 (.int .u8 0) T.b.length hl)
  have hb := blk_alloc h.blk (.cells (madeCells #[.int .u8 0] T.b.length) 5)
  have HSE := hid (hc4.chg ((Chg.refl (fun _ => False) w).alloc (.cells (madeCells #[.int .u8 0] T.b.length) 5)) (fun _ _ h => h))
  have c0' : (w.alloc (.cells (madeCells #[.int .u8 0] T.b.length) 5)).cell? ⟨g, 0, none⟩ = some (.slice A T.b.length c) := by rw [cellAt hb]; rfl
  clear h hc1 hc2 hc3 hc4 hb hl
  go_enter Try.func14, Try.ntmps14
  go_wp2_with (first | ((with_reducible refine at_dst (N := 15) rfl ?_); refine copy_list _ rfl (.tmp 10) (.tmp 14) 36 5 rfl Try.underlying36 (by kernel_rfl) w.heap.size T.b.length T.b.length _ rfl HM.out A c (u8s T.b) _ rfl (u8s_length _) HSE.out (u8s_one _) ?_; intro w' h1 h2; have G1 := hid h1; have G2 := hid h2; clear h1 h2))
  go_ret
  exact ⟨_, rfl, G1.out, ((Chg.refl (fun _ => False) w).alloc _).trans G2.out (fun i hi hlt => by omega)⟩

end Go.Proofs.Ytfpjickdkkhndaa.T


/- The contract of tape.Tape's Crash. -/

namespace Go.Proofs.Ytfpjickdkkhndaa.T

set_option linter.unusedVariables false

set_option linter.unusedSimpArgs false

open Go.RowKit Go.Proofs.Ytfpjickdkkhndaa.C

attribute [local go_sem] max2_int min2_int max_two min_two

/-- Bytes that are turned: the first ones by those of the other list. -/
def turned : List UInt8 → List UInt8 → List UInt8
  | [], _ => []
  | b :: l, [] => b :: l
  | b :: l, x :: t => (b ^^^ x) :: turned l t

def TS.crash (T : TS) (keep : Int) (turn : List UInt8) : TS :=
  let n := T.safe.toNat + (min (max keep 0) (T.b.length - T.safe)).toNat
  { T with b := (T.b.take T.safe.toNat) ++ turned ((T.b.take n).drop T.safe.toNat) turn, safe := n, left := -1, down := false }

theorem turned_length : ∀ (l t : List UInt8), (turned l t).length = l.length
  | [], _ => rfl
  | _ :: _, [] => rfl
  | _ :: l, _ :: t => by simp [turned, turned_length l t]

/-- k bytes are turned already. -/
def turnedTo (l t : List UInt8) (k : Nat) : List UInt8 := turned (l.take k) t ++ l.drop k

theorem turned_get : ∀ (l t : List UInt8) (j : Nat), (turned l t)[j]? = (l[j]?).map (fun b => match t[j]? with | some x => b ^^^ x | none => b)
  | [], t, j => by simp [turned]
  | b :: l, [], j => by simp [turned]
  | b :: l, x :: t, 0 => by simp [turned]
  | b :: l, x :: t, j + 1 => by simp [turned, turned_get l t j]

/-- The state of Crash's loop: k bytes of those behind the safe ones are turned. -/
structure CrashAt (S : Nat → Prop) (g : Nat) (T : TS) (m q : Nat) (l : List UInt8) (A2 : Option Addr) (c2 : Nat) (w : World) (k : Nat) (wr : World) : Prop where
  t : TapeAt wr (fun k => S k ∨ w.heap.size ≤ k) g (.slice A2 (m + q) c2) { T with b := T.b.take m ++ turnedTo ((T.b.take (m + q)).drop m) l k }
  c : Chg S w wr

theorem turnedTo_get (L l : List UInt8) (k j : Nat) : (turnedTo L l k)[j]? = (L[j]?).map (fun b => if j < k then (match l[j]? with | some x => b ^^^ x | none => b) else b) := by
  unfold turnedTo
  rw [List.getElem?_append, turned_length, List.length_take, turned_get, List.getElem?_take, List.getElem?_drop]
  by_cases h1 : j < k
  · by_cases h2 : j < L.length
    · rw [if_pos (by omega), if_pos h1]; simp [h1]
    · rw [if_neg (by omega)]
      rw [List.getElem?_eq_none (l := L) (i := j) (by omega), List.getElem?_eq_none (l := L) (by omega)]; rfl
  · rw [if_neg (by omega)]
    by_cases h2 : k ≤ L.length
    · rw [Nat.min_eq_left h2, show k + (j - k) = j by omega]; simp [h1]
    · rw [List.getElem?_eq_none (l := L) (i := j) (by omega), List.getElem?_eq_none (l := L) (by omega)]; rfl
theorem turnedTo_all (L l : List UInt8) (k : Nat) (h : L.length ≤ k) : turnedTo L l k = turned L l := by
  unfold turnedTo; rw [List.take_of_length_le h, List.drop_eq_nil_of_le h, List.append_nil]
theorem turnedTo_succ (L l : List UInt8) (k : Nat) (y x : UInt8) (hy : (turnedTo L l k)[k]? = some y) (hx : l[k]? = some x) : turnedTo L l (k + 1) = (turnedTo L l k).set k (y ^^^ x) := by
  apply List.ext_getElem?
  intro j
  rw [turnedTo_get] at hy
  rw [turnedTo_get, List.getElem?_set, turnedTo_get]
  by_cases h : k = j
  · subst h
    have hl : k < L.length := by
      rcases Nat.lt_or_ge k L.length with h | h
      · exact h
      · rw [List.getElem?_eq_none h] at hy; cases hy
    have hlen : k < (turnedTo L l k).length := by simp [turnedTo, turned_length]; omega
    rw [if_pos rfl, if_pos hlen, hx]
    simp at hy
    simp [hy]
  · rw [if_neg h]
    have e : (j < k + 1) ↔ (j < k) := by omega
    simp only [e]
theorem turnedTo_over (L l : List UInt8) (k : Nat) (h : l.length ≤ k) : turnedTo L l (k + 1) = turnedTo L l k := by
  apply List.ext_getElem?
  intro j
  rw [turnedTo_get, turnedTo_get]
  by_cases h1 : j = k
  · subst h1
    have : l[j]? = none := List.getElem?_eq_none h
    rw [this]; simp
  · have e : (j < k + 1) ↔ (j < k) := by omega
    simp only [e]

/-- One more byte is turned. -/
theorem crash_round {S : Nat → Prop} {g g2 : Nat} {T : TS} {m q : Nat} {l : List UInt8} {c2 : Nat} {w wr : World} {k : Nat} (h : CrashAt S g T m q l (some ⟨g2, 0, none⟩) c2 w k wr) (hb : (T.b.take m ++ turnedTo ((T.b.take (m + q)).drop m) l k).length = m + q)
    (hm : m ≤ T.b.length) {x y : UInt8} (hy : (T.b.take m ++ turnedTo ((T.b.take (m + q)).drop m) l k)[m + k]? = some y) (hx : l[k]? = some x) :
    CrashAt S g T m q l (some ⟨g2, 0, none⟩) c2 w (k + 1) (wr.setCell ⟨g2, m + k, none⟩ (.int .u8 ((y ^^^ x).toNat : Int))) := by
  have hS : S g2 ∨ w.heap.size ≤ g2 := h.t.rowS g2 rfl
  have hne : g2 ≠ g := fun e => h.t.ne (by rw [e]; rfl)
  have hc : Chg (fun k => k = g2) wr (wr.setCell ⟨g2, m + k, none⟩ (.int .u8 ((y ^^^ x).toNat : Int))) := (Chg.refl (fun k => k = g2) wr).set (fun _ => rfl) _
  have hl : (T.b.take m).length = m := by rw [List.length_take]; omega
  have e : T.b.take m ++ turnedTo ((T.b.take (m + q)).drop m) l (k + 1) = (T.b.take m ++ turnedTo ((T.b.take (m + q)).drop m) l k).set (m + k) (y ^^^ x) := by
    rw [List.set_append_right _ _ (by omega), hl, Nat.add_sub_cancel_left]
    congr 1
    refine turnedTo_succ _ _ _ y x ?_ hx
    rw [List.getElem?_append_right (by omega), hl, Nat.add_sub_cancel_left] at hy
    exact hy
  refine ⟨⟨h.t.inS, hc.blk h.t.blk (fun e => hne e.symm), ?_, h.t.rowS⟩, h.c.trans hc (fun i hi hlt => ?_)⟩
  · have hr := h.t.row
    show (wr.setCell _ _).ownsRow 0 5 1 _ (T.b.take m ++ turnedTo ((T.b.take (m + q)).drop m) l (k + 1)).length (u8s (T.b.take m ++ turnedTo ((T.b.take (m + q)).drop m) l (k + 1)))
    rw [e, List.length_set]
    simp only at hr
    rw [hb] at hr ⊢
    have := hr.stored (m + k) (.int .u8 ((y ^^^ x).toNat : Int))
    have e2 : u8s ((T.b.take m ++ turnedTo ((T.b.take (m + q)).drop m) l k).set (m + k) (y ^^^ x)) = (u8s (T.b.take m ++ turnedTo ((T.b.take (m + q)).drop m) l k)).set (m + k) (.int .u8 ((y ^^^ x).toNat : Int)) := by simp only [u8s, List.map_set]
    rw [e2]
    exact this.1
  · subst hi
    rcases hS with hS | hS
    · exact hS
    · omega
theorem crash_stay {S : Nat → Prop} {g : Nat} {T : TS} {m q : Nat} {l : List UInt8} {A2 : Option Addr} {c2 : Nat} {w wr : World} {k : Nat} (h : CrashAt S g T m q l A2 c2 w k wr) (hl : l.length ≤ k) : CrashAt S g T m q l A2 c2 w (k + 1) wr := by
  refine ⟨?_, h.c⟩
  rw [turnedTo_over _ _ _ hl]
  exact h.t

end Go.Proofs.Ytfpjickdkkhndaa.T


/- Tape's methods in a law: the law's own other blocks X are left alone, and so is all that was there ahead of it. -/

namespace Go.Proofs.Ytfpjickdkkhndaa.T

set_option linter.unusedVariables false

set_option linter.unusedSimpArgs false

open Go.RowKit Go.Proofs.Ytfpjickdkkhndaa.C

attribute [local go_sem] max2_int min2_int max_two min_two

structure Lv (w0 w : World) (X : Nat → Prop) (g : Nat) (T : TS) : Prop where
  ex : ∃ S v, TapeAt w S g v T ∧ ∀ k, S k → k < w.heap.size → w0.heap.size ≤ k ∧ ¬ X k
  below : Below w0.heap.size w0 w
  xlt : ∀ k, X k → k < w.heap.size
  ok : T.Ok

def LvTo (w0 : World) (X : Nat → Prop) (g : Nat) (T : TS) (w w' : World) : Prop := Lv w0 w' X g T ∧ Chg (fun k => w0.heap.size ≤ k ∧ ¬ X k) w w'

theorem Lv.size {w0 w : World} {X : Nat → Prop} {g : Nat} {T : TS} (h : Lv w0 w X g T) : w0.heap.size ≤ w.heap.size := h.below.size

theorem Lv.alloc {w0 w : World} {X : Nat → Prop} {g : Nat} {T : TS} (h : Lv w0 w X g T) (o : Obj) : Lv w0 (w.alloc o) (fun k => X k ∨ k = w.heap.size) g T := by
  obtain ⟨S, v, ht, hS⟩ := h.ex
  have ht' : TapeAt w (fun k => S k ∧ k < w.heap.size) g v T := ht.mono (fun k hk hs => ⟨hs, hk⟩)
  refine ⟨⟨fun k => S k ∧ k < w.heap.size, v, ht'.chg ((Chg.refl (fun _ => False) w).alloc o) (fun _ _ h => h), fun k hk _ => ?_⟩, h.below.alloc h.size o, fun k hk => ?_, h.ok⟩
  · obtain ⟨h1, h2⟩ := hS k hk.1 hk.2
    refine ⟨h1, ?_⟩
    rintro (h3 | h3)
    · exact h2 h3
    · omega
  · rcases hk with hk | hk
    · have := h.xlt k hk; simp; omega
    · simp; omega
theorem Lv.drewN {w0 w : World} {X : Nat → Prop} {g : Nat} {T : TS} (h : Lv w0 w X g T) (n : Nat) : Lv w0 (w.drewN n) X g T := by
  obtain ⟨S, v, ht, hS⟩ := h.ex
  exact ⟨⟨S, v, ht.chg ((Chg.refl (fun _ => False) w).drewN n) (fun _ _ h => h), hS⟩, below_drewN h.below n, h.xlt, h.ok⟩
/-- The law writes a block of its own. -/
theorem Lv.chg {w0 w w' : World} {X : Nat → Prop} {g : Nat} {T : TS} (h : Lv w0 w X g T) (hc : Chg (fun k => X k ∧ w0.heap.size ≤ k) w w') : Lv w0 w' X g T := by
  obtain ⟨S, v, ht, hS⟩ := h.ex
  have ht' : TapeAt w (fun k => S k ∧ k < w.heap.size) g v T := ht.mono (fun k hk hs => ⟨hs, hk⟩)
  refine ⟨⟨fun k => S k ∧ k < w.heap.size, v, ht'.chg hc (fun k hk hx => (hS k hk.1 hk.2).2 hx.1), fun k hk _ => hS k hk.1 hk.2⟩, h.below.trans (hc.below h.size (fun k hk => hk.2)), fun k hk => Nat.lt_of_lt_of_le (h.xlt k hk) hc.size, h.ok⟩

theorem TS.called_ok {T : TS} (h : T.Ok) : T.called.Ok := ⟨h.s0, h.s1, h.r0, h.r1, by have := h.l0; simp only [TS.called, mx_eq]; omega, by have := h.l1; simp only [TS.called, mx_eq]; omega⟩
theorem TS.append_ok {T : TS} (h : T.Ok) (l : List UInt8) : (T.append l).1.Ok := by
  unfold TS.append
  split
  · exact h
  · split
    · exact h
    · have hc := TS.called_ok h
      have h1 := h.s1
      exact ⟨hc.s0, by simp only [TS.called, List.length_append]; omega, by simp only [TS.called, List.length_append]; omega, hc.r1, hc.l0, hc.l1⟩
theorem TS.sync_ok {T : TS} (h : T.Ok) : T.sync.1.Ok := by
  unfold TS.sync
  split
  · exact h
  · split
    · exact TS.called_ok h
    · have hc := TS.called_ok h
      exact ⟨Int.natCast_nonneg _, Int.le_refl _, hc.r0, hc.r1, hc.l0, hc.l1⟩
theorem TS.trim_ok {T : TS} (h : T.Ok) (n : Int) : (T.trim n).1.Ok := by
  unfold TS.trim
  split
  · exact h
  · split
    · exact h
    · split
      · exact TS.called_ok h
      · have hc := TS.called_ok h
        have h1 := h.r0
        exact ⟨by show 0 ≤ n; omega, by show n ≤ _; simp only [List.length_take]; omega, by show ((T.b.take n.toNat).length : Int) ≤ T.room; simp only [List.length_take]; omega, hc.r1, hc.l0, hc.l1⟩
theorem TS.arm_ok {T : TS} (h : T.Ok) (n : Int) (hn : n ≤ 9223372036854775807) : ({ T with left := mx n (-1) } : TS).Ok := ⟨h.s0, h.s1, h.r0, h.r1, by show -1 ≤ mx n (-1); rw [mx_eq]; omega, by show mx n (-1) ≤ _; rw [mx_eq]; omega⟩
theorem TS.crash_length {T : TS} (h : T.Ok) (keep : Int) (turn : List UInt8) : (T.crash keep turn).b.length = T.safe.toNat + (min (max keep 0) (T.b.length - T.safe)).toNat := by
  have h1 := h.s0
  have h2 := h.s1
  simp only [TS.crash, List.length_append, turned_length, List.length_take, List.length_drop]
  omega
theorem TS.crash_ok {T : TS} (h : T.Ok) (keep : Int) (turn : List UInt8) : (T.crash keep turn).Ok := by
  have h1 := h.s0
  have h2 := h.s1
  have h3 := h.r0
  have hl := TS.crash_length h keep turn
  have e : (T.crash keep turn).safe = ((T.safe.toNat + (min (max keep 0) ((T.b.length : Int) - T.safe)).toNat : Nat) : Int) := rfl
  refine ⟨?_, ?_, ?_, h.r1, by show (-1 : Int) ≤ -1; omega, by show (-1 : Int) ≤ _; omega⟩
  · rw [e]; omega
  · rw [e, hl]; omega
  · rw [hl]; show _ ≤ T.room; omega

theorem lv_of_upd {w0 w w' : World} {X S : Nat → Prop} {g : Nat} {T T' : TS} (h : Lv w0 w X g T) (hS : ∀ k, S k → k < w.heap.size → w0.heap.size ≤ k ∧ ¬ X k) (hu : Upd S g T' w w') (ok : T'.Ok) : LvTo w0 X g T' w w' := by
  obtain ⟨v, ht, hc⟩ := hu
  have hc' : Chg (fun k => w0.heap.size ≤ k ∧ ¬ X k) w w' := hc.mono (fun k hk hlt => hS k hk hlt)
  refine ⟨⟨⟨fun k => (S k ∧ k < w.heap.size) ∨ w.heap.size ≤ k, v, ht.mono (fun k _ hk => ?_), fun k hk _ => ?_⟩, h.below.trans (hc'.below h.size (fun k hk => hk.1)), fun k hk => Nat.lt_of_lt_of_le (h.xlt k hk) hc.size, ok⟩, hc'⟩
  · rcases hk with hk | hk
    · rcases Nat.lt_or_ge k w.heap.size with h1 | h1
      · exact .inl ⟨hk, h1⟩
      · exact .inr h1
    · exact .inr hk
  · rcases hk with hk | hk
    · exact hS k hk.1 hk.2
    · exact ⟨Nat.le_trans h.size hk, fun hx => by have := h.xlt k hx; omega⟩
theorem upd_of_same {w w' : World} {S : Nat → Prop} {g : Nat} {v : Value} {T' : TS} (ht : TapeAt w' S g v T') (hc : Chg S w w') : Upd S g T' w w' := ⟨v, ht.mono (fun k _ hk => .inl hk), hc⟩

theorem lv_new (w0 w : World) (X : Nat → Prop) (room : Int) (hb : Below w0.heap.size w0 w) (hx : ∀ k, X k → k < w.heap.size) (h0 : 0 ≤ room) (h1 : room ≤ 1048576) :
    Calls Try.prog 9 #[.int .i64 room] w fun e w' => e = .returned (.pointer (some ⟨w.heap.size, 0, none⟩)) ∧ LvTo w0 X w.heap.size ⟨[], 0, room, -1, false⟩ w w' := by
  refine (new_any room w h0 h1).mono ?_
  rintro e w' ⟨rfl, ht, hc⟩
  refine ⟨rfl, ⟨⟨_, _, ht, fun k hk _ => ⟨Nat.le_trans hb.size hk, fun h => by have := hx k h; omega⟩⟩, hb.trans (hc.below hb.size (fun _ h => h.elim)), fun k hk => Nat.lt_of_lt_of_le (hx k hk) hc.size, ⟨by simp, by simp, by simpa using h0, h1, by simp, by simp⟩⟩, hc.mono (fun _ h _ => h.elim)⟩
theorem lv_append {w0 w : World} {X R : Nat → Prop} {g : Nat} {T : TS} {A : Option Addr} {n c : Nat} {l : List UInt8} (h : Lv w0 w X g T) (hA : A = none → c = 0) (hn : n = l.length) (hc : n ≤ c) (hs : Sees w R A (u8s l)) (hR : ∀ k, R k → k < w0.heap.size ∨ X k) :
    Calls Try.prog 19 #[.pointer (some ⟨g, 0, none⟩), .slice A n c] w fun e w' => e = .returned (.int .i64 (T.append l).2) ∧ LvTo w0 X g (T.append l).1 w w' := by
  obtain ⟨S, v, ht, hS⟩ := h.ex
  have ht' : TapeAt w (fun k => S k ∧ k < w.heap.size) g v T := ht.mono (fun k hk hs => ⟨hs, hk⟩)
  refine (append_any _ R g v T A n c l w ht' h.ok hA hn hc hs (fun k hk hk' => ?_)).mono ?_
  · obtain ⟨h1, h2⟩ := hS k hk'.1 hk'.2
    rcases hR k hk with h3 | h3
    · omega
    · exact h2 h3
  · rintro e w' ⟨rfl, hu⟩
    exact ⟨rfl, lv_of_upd h (fun k hk _ => hS k hk.1 hk.2) hu (TS.append_ok h.ok l)⟩
theorem lv_sync {w0 w : World} {X : Nat → Prop} {g : Nat} {T : TS} (h : Lv w0 w X g T) :
    Calls Try.prog 20 #[.pointer (some ⟨g, 0, none⟩)] w fun e w' => e = .returned (.int .i64 T.sync.2) ∧ LvTo w0 X g T.sync.1 w w' := by
  obtain ⟨S, v, ht, hS⟩ := h.ex
  refine (sync_any _ g v T w ht h.ok).mono ?_
  rintro e w' ⟨rfl, h1, h2⟩
  exact ⟨rfl, lv_of_upd h hS (upd_of_same h1 h2) (TS.sync_ok h.ok)⟩
theorem lv_trim {w0 w : World} {X : Nat → Prop} {g : Nat} {T : TS} (n : Int) (h : Lv w0 w X g T) :
    Calls Try.prog 33 #[.pointer (some ⟨g, 0, none⟩), .int .i64 n] w fun e w' => e = .returned (.int .i64 (T.trim n).2) ∧ LvTo w0 X g (T.trim n).1 w w' := by
  obtain ⟨S, v, ht, hS⟩ := h.ex
  refine (trim_any _ g v T n w ht h.ok).mono ?_
  rintro e w' ⟨rfl, hu⟩
  exact ⟨rfl, lv_of_upd h hS hu (TS.trim_ok h.ok n)⟩
theorem lv_arm {w0 w : World} {X : Nat → Prop} {g : Nat} {T : TS} (n : Int) (hn : n ≤ 9223372036854775807) (h : Lv w0 w X g T) :
    Calls Try.prog 22 #[.pointer (some ⟨g, 0, none⟩), .int .i64 n] w fun e w' => e = .returned (.tuple #[]) ∧ LvTo w0 X g { T with left := mx n (-1) } w w' := by
  obtain ⟨S, v, ht, hS⟩ := h.ex
  refine (arm_any _ g v T n w ht).mono ?_
  rintro e w' ⟨rfl, h1, h2⟩
  exact ⟨rfl, lv_of_upd h hS (upd_of_same h1 (h2.mono (fun k hk _ => by subst hk; exact ht.inS))) (TS.arm_ok h.ok n hn)⟩
theorem lv_safe {w0 w : World} {X : Nat → Prop} {g : Nat} {T : TS} (h : Lv w0 w X g T) :
    Calls Try.prog 17 #[.pointer (some ⟨g, 0, none⟩)] w fun e w' => e = .returned (.int .i64 T.safe) ∧ w = w' := by
  obtain ⟨S, v, ht, hS⟩ := h.ex
  exact safe_any S g v T w ht
theorem lv_room {w0 w : World} {X : Nat → Prop} {g : Nat} {T : TS} (h : Lv w0 w X g T) :
    Calls Try.prog 40 #[.pointer (some ⟨g, 0, none⟩)] w fun e w' => e = .returned (.int .i64 (T.room - T.b.length)) ∧ ∃ n, w' = w.drewN n := by
  obtain ⟨S, v, ht, hS⟩ := h.ex
  exact room_any S g v T w ht h.ok
/-- Bytes: the row that is told lies at the heap's end, and is the law's own. -/
def BytesTo (w0 : World) (X : Nat → Prop) (g : Nat) (T : TS) (w w' : World) (c : Nat) : Prop :=
  Lv w0 w' (fun k => X k ∨ k = w.heap.size) g T ∧ w'.ownsRow 0 5 1 (.slice (some ⟨w.heap.size, 0, none⟩) T.b.length c) T.b.length (u8s T.b) ∧ Chg (fun _ => False) w w' ∧ T.b.length ≤ c
theorem lv_bytes {w0 w : World} {X : Nat → Prop} {g : Nat} {T : TS} (h : Lv w0 w X g T) :
    Calls Try.prog 14 #[.pointer (some ⟨g, 0, none⟩)] w fun e w' => ∃ c, e = .returned (.slice (some ⟨w.heap.size, 0, none⟩) T.b.length c) ∧ BytesTo w0 X g T w w' c := by
  obtain ⟨S, v, ht, hS⟩ := h.ex
  have ht' : TapeAt w (fun k => S k ∧ k < w.heap.size) g v T := ht.mono (fun k hk hs => ⟨hs, hk⟩)
  have hr0 := h.ok.r0
  have hr1 := h.ok.r1
  refine (bytes_any _ g v T w ht' (by omega)).mono ?_
  rintro e w' ⟨c, rfl, h1, h2⟩
  have hlt := own_lt h1 w.heap.size rfl
  refine ⟨c, rfl, ⟨⟨_, v, ht'.chg h2 (fun _ _ h => h), fun k hk _ => ?_⟩, h.below.trans (h2.below h.size (fun _ h => h.elim)), fun k hk => ?_, h.ok⟩, h1, h2, ?_⟩
  · obtain ⟨h3, h4⟩ := hS k hk.1 hk.2
    refine ⟨h3, ?_⟩
    rintro (h5 | h5)
    · exact h4 h5
    · have := hk.2; omega
  · rcases hk with hk | hk
    · exact Nat.lt_of_lt_of_le (h.xlt k hk) h2.size
    · omega
  · obtain ⟨_, _, hv, hle, _⟩ := own_sees h1
    injection hv with _ _ hcc
    omega

/-- All that was made since is the law's own. -/
theorem Lv.since {w0 w w' : World} {X : Nat → Prop} {g : Nat} {T : TS} (h : Lv w0 w X g T) (hc : Chg (fun k => X k ∧ w0.heap.size ≤ k) w w') : Lv w0 w' (fun k => X k ∨ (w.heap.size ≤ k ∧ k < w'.heap.size)) g T := by
  obtain ⟨S, v, ht, hS⟩ := h.ex
  have ht' : TapeAt w (fun k => S k ∧ k < w.heap.size) g v T := ht.mono (fun k hk hs => ⟨hs, hk⟩)
  refine ⟨⟨fun k => S k ∧ k < w.heap.size, v, ht'.chg hc (fun k hk hx => (hS k hk.1 hk.2).2 hx.1), fun k hk _ => ?_⟩, h.below.trans (hc.below h.size (fun k hk => hk.2)), fun k hk => ?_, h.ok⟩
  · obtain ⟨h3, h4⟩ := hS k hk.1 hk.2
    refine ⟨h3, ?_⟩
    rintro (h5 | h5)
    · exact h4 h5
    · have := hk.2; omega
  · rcases hk with hk | hk
    · exact Nat.lt_of_lt_of_le (h.xlt k hk) hc.size
    · exact hk.2

end Go.Proofs.Ytfpjickdkkhndaa.T


/- The anchor of layer 12's statements. -/

namespace Go.Proofs.Ytfpjickdkkhndaa.T

set_option linter.unusedVariables false

set_option linter.unusedSimpArgs false

open Go.RowKit Go.Proofs.Ytfpjickdkkhndaa.C

attribute [local go_sem] max2_int min2_int max_two min_two

/-- A literal of bytes in a new block. -/
theorem lit_sees (w : World) (l : List UInt8) : Sees (w.alloc (.cells (u8s l).toArray 5)) (fun k => k = w.heap.size) (some ⟨w.heap.size, 0, none⟩) (u8s l) := by
  refine .inr ⟨_, rfl, rfl, fun j u hj => ?_⟩
  rw [add_at, Nat.zero_add, cellAt (blk_new w _)]
  simpa using hj

/-! ### A tape that is not armed -/
abbrev calm (b : List UInt8) (s r : Int) : TS := ⟨b, s, r, -1, false⟩
theorem append_calm {b l : List UInt8} {s r : Int} (h : (l.length : Int) ≤ r - b.length) : (calm b s r).append l = (calm (b ++ l) s r, 0) := by
  have h' : ¬ r - (b.length : Int) < (l.length : Int) := by omega
  simp [TS.append, TS.called, h', mx]
theorem append_full {b l : List UInt8} {s r : Int} (h : r - (b.length : Int) < (l.length : Int)) : (calm b s r).append l = (calm b s r, 41) := by
  simp [TS.append, h]
theorem sync_calm {b : List UInt8} {s r : Int} : (calm b s r).sync = (calm b b.length r, 0) := by simp [TS.sync, TS.called, mx]
theorem trim_calm {b : List UInt8} {s r : Int} {n : Nat} (h : n ≤ b.length) : (calm b s r).trim n = (calm (b.take n) n r, 0) := by
  have h' : ¬ ((n : Int) < 0 ∨ (b.length : Int) < (n : Int)) := by omega
  simp [TS.trim, TS.called, h', mx, h]

theorem made_sees (w : World) (m : Nat) (hm : m ≤ 281474976710656) : Sees (w.alloc (.cells (madeCells #[.int .u8 0] m) 5)) (fun k => k = w.heap.size) (some ⟨w.heap.size, 0, none⟩) (u8s (List.replicate m 0)) := by
  obtain ⟨A, c, hv, _, _, _, hs⟩ := own_sees (own_made w 5 (.int .u8 0) m hm)
  injection hv with hA _ _
  subst hA
  have e : u8s (List.replicate m 0) = List.replicate m (Value.int .u8 0) := by simp [u8s]
  rw [e]
  exact hs.mono (fun k hk => by simpa [Value.ownBlock] using hk.symm)

end Go.Proofs.Ytfpjickdkkhndaa.T


/- Frames as plain data: what a frame is, what is read of bytes, and the plain laws of both. No program here. -/

namespace Go.Proofs.Ytfpjickdkkhndaa.FrameP

set_option linter.unusedVariables false

def step (s : Nat × Nat) (c : UInt8) : Nat × Nat := ((s.1 + c.toNat) % 65521, (s.2 + (s.1 + c.toNat) % 65521) % 65521)
def sums (l : List UInt8) : Nat × Nat := l.foldl step (1, 0)
def sum (l : List UInt8) : Nat := (sums l).2 * 65536 + (sums l).1
theorem sums_nil : sums [] = (1, 0) := rfl
theorem sums_snoc (l : List UInt8) (c : UInt8) : sums (l ++ [c]) = step (sums l) c := by simp [sums]
theorem sums_lt (l : List UInt8) : (sums l).1 < 65521 ∧ (sums l).2 < 65521 := by
  rcases List.eq_nil_or_concat l with h | ⟨l', c, h⟩
  · subst h; exact ⟨by decide, by decide⟩
  · rw [List.concat_eq_append] at h
    subst h
    rw [sums_snoc]
    exact ⟨Nat.mod_lt _ (by decide), Nat.mod_lt _ (by decide)⟩
theorem sum_lt (l : List UInt8) : sum l < 4294967296 := by have := sums_lt l; unfold sum; omega

def byte (n : Nat) : UInt8 := UInt8.ofNat n
theorem byte_toNat (n : Nat) : (byte n).toNat = n % 256 := by simp [byte]
def num4 (n : Nat) : List UInt8 := [byte (n / 16777216), byte (n / 65536), byte (n / 256), byte n]
def four (l : List UInt8) : Nat := ((((l.getD 0 0).toNat * 256 + (l.getD 1 0).toNat) * 256 + (l.getD 2 0).toNat) * 256) + (l.getD 3 0).toNat
theorem four_num4 (n : Nat) (h : n < 4294967296) (r : List UInt8) : four (num4 n ++ r) = n := by
  simp only [four, num4, List.cons_append, List.getD_cons_zero, List.getD_cons_succ, byte_toNat]
  omega
theorem num4_length (n : Nat) : (num4 n).length = 4 := rfl

def frame (body : List UInt8) : List UInt8 := [67, 70] ++ num4 body.length ++ num4 (sum body) ++ body
theorem frame_length (body : List UInt8) : (frame body).length = 10 + body.length := by simp [frame, num4_length]; omega

/-- An error's number (0: none), and the body. -/
def read (b : List UInt8) : Nat × List UInt8 :=
  if b.length < 10 then (11, []) else if b.getD 0 0 ≠ 67 ∨ b.getD 1 0 ≠ 70 then (10, [])
  else if 65536 < four (b.drop 2) then (12, []) else if b.length - 10 < four (b.drop 2) then (11, [])
  else if four (b.drop 6) ≠ sum ((b.drop 10).take (four (b.drop 2))) then (15, []) else (0, (b.drop 10).take (four (b.drop 2)))
theorem read_len {b l : List UInt8} (h : read b = (0, l)) : 10 + l.length ≤ b.length ∧ l.length ≤ 65536 ∧ l = (b.drop 10).take l.length := by
  unfold read at h
  split at h
  · simp at h
  · split at h
    · simp at h
    · split at h
      · simp at h
      · split at h
        · simp at h
        · split at h
          · simp at h
          · rename_i h1 _ h2 h3 _
            simp only [Prod.mk.injEq, true_and] at h
            subst h
            have : ((b.drop 10).take (four (b.drop 2))).length = four (b.drop 2) := by rw [List.length_take, List.length_drop]; omega
            rw [this]
            exact ⟨by omega, by omega, rfl⟩
theorem read_err {b : List UInt8} {e : Nat} {l : List UInt8} (h : read b = (e, l)) (he : e ≠ 0) : l = [] := by
  unfold read at h
  repeat (first | (split at h) | (simp only [Prod.mk.injEq] at h; exact h.2.symm) | (simp only [Prod.mk.injEq] at h; exact absurd h.1.symm he))
theorem read_frame (body r : List UInt8) (h : body.length ≤ 65536) : read (frame body ++ r) = (0, body) := by
  have hl : (frame body ++ r).length = 10 + body.length + r.length := by rw [List.length_append, frame_length]
  have h2 : (frame body ++ r).drop 2 = num4 body.length ++ (num4 (sum body) ++ body ++ r) := by simp [frame]
  have h6 : (frame body ++ r).drop 6 = num4 (sum body) ++ (body ++ r) := by simp [frame, num4]
  have h10 : (frame body ++ r).drop 10 = body ++ r := by simp [frame, num4]
  have f2 : four ((frame body ++ r).drop 2) = body.length := by rw [h2]; exact four_num4 _ (by omega) _
  have f6 : four ((frame body ++ r).drop 6) = sum body := by rw [h6]; exact four_num4 _ (sum_lt _) _
  unfold read
  rw [if_neg (by omega), if_neg (by simp [frame]), f2, if_neg (by omega), if_neg (by omega), f6, h10, List.take_left, if_neg (by simp)]

/-- All bodies up to the first error, and how many bytes they take. -/
def scan (b : List UInt8) : List (List UInt8) × Nat :=
  match h : read b with
  | (0, l) => let r := scan (b.drop (10 + l.length)); (l :: r.1, 10 + l.length + r.2)
  | _ => ([], 0)
termination_by b.length
decreasing_by
  have := (read_len h).1
  simp only [List.length_drop]
  omega
theorem scan_ok {b l : List UInt8} (h : read b = (0, l)) : scan b = (l :: (scan (b.drop (10 + l.length))).1, 10 + l.length + (scan (b.drop (10 + l.length))).2) := by
  rw [scan]
  split
  · rename_i l' h'
    rw [h] at h'
    simp only [Prod.mk.injEq, true_and] at h'
    subst h'
    rfl
  · rename_i hn
    exact absurd h (hn l)
theorem scan_no {b l : List UInt8} {e : Nat} (h : read b = (e, l)) (he : e ≠ 0) : scan b = ([], 0) := by
  rw [scan]
  split
  · rename_i l' h'
    rw [h] at h'
    simp only [Prod.mk.injEq] at h'
    exact absurd h'.1 he
  · rfl
theorem scan_le (b : List UInt8) : (scan b).2 ≤ b.length := by
  induction hn : b.length using Nat.strongRecOn generalizing b with
  | _ n ih =>
    rcases hr : read b with ⟨e, l⟩
    by_cases he : e = 0
    · subst he
      have := read_len hr
      rw [scan_ok hr]
      have h2 := ih (b.drop (10 + l.length)).length (by rw [List.length_drop]; omega) _ rfl
      rw [List.length_drop] at h2
      show 10 + l.length + _ ≤ n
      omega
    · rw [scan_no hr he]; exact Nat.zero_le _
/-- Whole frames in a row, and what stands behind them. -/
theorem scan_frames : ∀ (bs : List (List UInt8)) (r : List UInt8), (∀ x ∈ bs, x.length ≤ 65536) → scan ((bs.map frame).flatten ++ r) = (bs ++ (scan r).1, ((bs.map frame).flatten).length + (scan r).2)
  | [], r, _ => by simp
  | x :: bs, r, h => by
    have e : ((x :: bs).map frame).flatten ++ r = frame x ++ ((bs.map frame).flatten ++ r) := by simp
    rw [e, scan_ok (read_frame x _ (h x (by simp)))]
    have e2 : (frame x ++ ((bs.map frame).flatten ++ r)).drop (10 + x.length) = (bs.map frame).flatten ++ r := by rw [← frame_length, List.drop_left]
    rw [e2, scan_frames bs r (fun y hy => h y (by simp [hy]))]
    simp [frame_length]
    omega
/-- A frame that is cut off is none. -/
theorem read_cut (body : List UInt8) (k : Nat) (h : body.length ≤ 65536) (hk : k < (frame body).length) : ∃ e, e ≠ 0 ∧ read ((frame body).take k) = (e, []) := by
  rw [frame_length] at hk
  have hl : ((frame body).take k).length = k := by rw [List.length_take, frame_length]; omega
  by_cases h10 : k < 10
  · exact ⟨11, by decide, by unfold read; rw [hl, if_pos h10]⟩
  · have ef : frame body = ([67, 70] ++ num4 body.length) ++ (num4 (sum body) ++ body) := by simp [frame]
    have hp : ([67, 70] ++ num4 body.length : List UInt8).length = 6 := rfl
    have et : (frame body).take k = [67, 70] ++ (num4 body.length ++ (num4 (sum body) ++ body).take (k - 6)) := by
      rw [ef, List.take_append, hp, List.take_of_length_le (by rw [hp]; omega), List.append_assoc]
    have h2 : ((frame body).take k).drop 2 = num4 body.length ++ ((num4 (sum body) ++ body).take (k - 6)) := by rw [et]; rfl
    have f2 : four (((frame body).take k).drop 2) = body.length := by rw [h2]; exact four_num4 _ (by omega) _
    have g0 : ((frame body).take k).getD 0 0 = 67 ∧ ((frame body).take k).getD 1 0 = 70 := by rw [et]; exact ⟨rfl, rfl⟩
    refine ⟨11, by decide, ?_⟩
    unfold read
    rw [hl, if_neg h10, if_neg (by rw [g0.1, g0.2]; simp), f2, if_neg (by omega), if_pos (by omega)]
theorem read_nil : read [] = (11, []) := rfl

theorem sums_mod (l : List UInt8) : (sums l).1 = (1 + (l.map (·.toNat)).sum) % 65521 := by
  induction hn : l.length generalizing l with
  | zero => obtain rfl := List.eq_nil_of_length_eq_zero hn; rfl
  | succ n ih =>
    rcases List.eq_nil_or_concat l with h | ⟨l', c, h⟩
    · subst h; simp at hn
    · rw [List.concat_eq_append] at h
      subst h
      have hn' : l'.length = n := by simpa using hn
      rw [sums_snoc, step, ih l' hn']
      simp only [List.map_append, List.sum_append, List.map_cons, List.map_nil, List.sum_cons, List.sum_nil]
      omega
theorem sum_set {l : List UInt8} {i : Nat} {c d : UInt8} (hi : l[i]? = some c) (hcd : c ≠ d) : sum (l.set i d) ≠ sum l := by
  have hne : (sums (l.set i d)).1 ≠ (sums l).1 := by
    rw [sums_mod, sums_mod]
    have hl : i < l.length := by
      rcases Nat.lt_or_ge i l.length with h | h
      · exact h
      · rw [List.getElem?_eq_none h] at hi; cases hi
    have e1 : l = l.take i ++ c :: l.drop (i + 1) := by
      rw [List.getElem?_eq_getElem hl] at hi
      injection hi with hi
      rw [← hi, ← List.drop_eq_getElem_cons hl, List.take_append_drop]
    have e2 : l.set i d = l.take i ++ d :: l.drop (i + 1) := List.set_eq_take_append_cons_drop .. ▸ by rw [if_pos hl]
    have s1 : (l.map (·.toNat)).sum = ((l.take i).map (·.toNat)).sum + (c.toNat + ((l.drop (i + 1)).map (·.toNat)).sum) := by
      conv => lhs; rw [e1]
      simp
    have s2 : ((l.set i d).map (·.toNat)).sum = ((l.take i).map (·.toNat)).sum + (d.toNat + ((l.drop (i + 1)).map (·.toNat)).sum) := by rw [e2]; simp
    rw [s1, s2]
    have hc := c.toNat_lt
    have hd := d.toNat_lt
    have hne' : c.toNat ≠ d.toNat := fun h => hcd (UInt8.toNat_inj.1 h)
    omega
  intro h
  have h1 := sums_lt (l.set i d)
  have h2 := sums_lt l
  unfold sum at h
  omega
theorem four_set (n : Nat) (hn : n < 4294967296) (i : Nat) (h4 : i < 4) (c d : UInt8) (hc : (num4 n)[i]? = some c) (hcd : c ≠ d) (r : List UInt8) : four ((num4 n).set i d ++ r) ≠ n := by
  have hne : c.toNat ≠ d.toNat := fun h => hcd (UInt8.toNat_inj.1 h)
  have hd := d.toNat_lt
  have hi : i = 0 ∨ i = 1 ∨ i = 2 ∨ i = 3 := by omega
  rcases hi with rfl | rfl | rfl | rfl
  · have e : byte (n / 16777216) = c := by simpa [num4] using hc
    rw [← e, byte_toNat] at hne
    have : four ((num4 n).set 0 d ++ r) = ((d.toNat * 256 + n / 65536 % 256) * 256 + n / 256 % 256) * 256 + n % 256 := by simp [four, num4, byte_toNat]
    omega
  · have e : byte (n / 65536) = c := by simpa [num4] using hc
    rw [← e, byte_toNat] at hne
    have : four ((num4 n).set 1 d ++ r) = ((n / 16777216 % 256 * 256 + d.toNat) * 256 + n / 256 % 256) * 256 + n % 256 := by simp [four, num4, byte_toNat]
    omega
  · have e : byte (n / 256) = c := by simpa [num4] using hc
    rw [← e, byte_toNat] at hne
    have : four ((num4 n).set 2 d ++ r) = ((n / 16777216 % 256 * 256 + n / 65536 % 256) * 256 + d.toNat) * 256 + n % 256 := by simp [four, num4, byte_toNat]
    omega
  · have e : byte n = c := by simpa [num4] using hc
    rw [← e, byte_toNat] at hne
    have : four ((num4 n).set 3 d ++ r) = ((n / 16777216 % 256 * 256 + n / 65536 % 256) * 256 + n / 256 % 256) * 256 + d.toNat := by simp [four, num4, byte_toNat]
    omega
/-- One byte behind the length that is turned is found. -/
theorem read_turned (body : List UInt8) (i : Nat) (c d : UInt8) (h : body.length ≤ 65536) (hi : (frame body)[6 + i]? = some c) (hcd : c ≠ d) : read ((frame body).set (6 + i) d) = (15, []) := by
  have hfl : 6 + i < 10 + body.length := by
    rw [← frame_length]
    rcases Nat.lt_or_ge (6 + i) (frame body).length with h | h
    · exact h
    · rw [List.getElem?_eq_none h] at hi; cases hi
  have hl : ((frame body).set (6 + i) d).length = 10 + body.length := by rw [List.length_set, frame_length]
  have ef : frame body = ([67, 70] ++ num4 body.length) ++ (num4 (sum body) ++ body) := by simp [frame]
  have hp : ([67, 70] ++ num4 body.length : List UInt8).length = 6 := rfl
  have es : (frame body).set (6 + i) d = ([67, 70] ++ num4 body.length) ++ (num4 (sum body) ++ body).set i d := by
    rw [ef, List.set_append_right _ _ (by rw [hp]; omega), hp, Nat.add_sub_cancel_left]
  have ei : (num4 (sum body) ++ body)[i]? = some c := by
    rw [ef, List.getElem?_append_right (by rw [hp]; omega), hp, Nat.add_sub_cancel_left] at hi
    exact hi
  have h2 : ((frame body).set (6 + i) d).drop 2 = num4 body.length ++ (num4 (sum body) ++ body).set i d := by rw [es]; simp
  have f2 : four (((frame body).set (6 + i) d).drop 2) = body.length := by rw [h2]; exact four_num4 _ (by omega) _
  have h6 : ((frame body).set (6 + i) d).drop 6 = (num4 (sum body) ++ body).set i d := by rw [es]; simp [num4]
  have hne : four (((frame body).set (6 + i) d).drop 6) ≠ sum ((((frame body).set (6 + i) d).drop 10).take body.length) := by
    have h10 : ((frame body).set (6 + i) d).drop 10 = (((frame body).set (6 + i) d).drop 6).drop 4 := by rw [List.drop_drop]
    rw [h10, h6]
    by_cases h4 : i < 4
    · rw [List.set_append_left _ _ (by rw [num4_length]; exact h4)]
      have e4 : ((num4 (sum body)).set i d ++ body).drop 4 = body := by
        have : ((num4 (sum body)).set i d).length = 4 := by rw [List.length_set, num4_length]
        rw [← this, List.drop_left]
      rw [e4, List.take_length]
      rw [List.getElem?_append_left (by rw [num4_length]; exact h4)] at ei
      exact four_set _ (sum_lt body) i h4 c d ei hcd _
    · rw [List.set_append_right _ _ (by rw [num4_length]; omega), num4_length]
      have e4 : (num4 (sum body) ++ body.set (i - 4) d).drop 4 = body.set (i - 4) d := by rw [← num4_length (sum body), List.drop_left]
      rw [e4, List.take_of_length_le (by rw [List.length_set]; exact Nat.le_refl _), four_num4 _ (sum_lt _)]
      rw [List.getElem?_append_right (by rw [num4_length]; omega), num4_length] at ei
      exact fun h => sum_set ei hcd h.symm
  unfold read
  rw [hl, if_neg (by omega), if_neg (by rw [es]; simp), f2, if_neg (by omega), if_neg (by omega), if_pos hne]

end Go.Proofs.Ytfpjickdkkhndaa.FrameP


/- Contracts of package frame, and of its reference. -/

namespace Go.Proofs.Ytfpjickdkkhndaa.Fr

set_option linter.unusedVariables false

set_option linter.unusedSimpArgs false

open Go.RowKit Go.Proofs.Ytfpjickdkkhndaa.C

attribute [local go_sem] max2_int min2_int max_two min_two

theorem info5 : (Try.prog.info? 5).map (fun i => (i.zero, i.size, i.bytes)) = some (some (.int .u8 0), 1, 1) := by kernel_rfl

theorem take_snoc {l : List UInt8} {k : Nat} {y : UInt8} (h : l[k]? = some y) : l.take (k + 1) = l.take k ++ [y] := by
  have hl : k < l.length := by
    rcases Nat.lt_or_ge k l.length with h' | h'
    · exact h'
    · rw [List.getElem?_eq_none h'] at h; cases h
  rw [List.getElem?_eq_getElem hl] at h
  injection h with h
  rw [List.take_succ_eq_append_getElem hl, h]

theorem step_x (s : Nat × Nat) (c : UInt8) : (((s.1 : Int) + (c.toNat : Int)) % 65521) = ((FrameP.step s c).1 : Int) := by simp [FrameP.step]
theorem step_y (s : Nat × Nat) (c : UInt8) : (((s.2 : Int) + ((s.1 : Int) + (c.toNat : Int)) % 65521) % 65521) = ((FrameP.step s c).2 : Int) := by simp [FrameP.step]

set_option maxHeartbeats 1000000 in
theorem sum_any (A : Option Addr) (n c : Nat) (l : List UInt8) (S : Nat → Prop) (w : World) (h : Ty.At Ty.u8 w S A n c l) :
    Calls Try.prog 52 #[.slice A n c] w fun e w' => e = .returned (.int .i64 (FrameP.sum l : Int)) ∧ w = w' := by
  have H := hid h
  have hn := h.1
  have hm : n ≤ 9223372036854775807 := by have := h.2.1; have := h.2.2.1; simp [maxLen] at this; omega
  have HN := hid hn
  clear h hn
  go_enter Try.func52, Try.ntmps52
  go_wp2
  go_loop [3, 4, 9] (fun x y i => ∃ k : Nat, k ≤ n ∧ i = .int .i64 k ∧ x = .int .i64 ((FrameP.sums (l.take k)).1 : Int) ∧ y = .int .i64 ((FrameP.sums (l.take k)).2 : Int)) (fun _ _ i => n - (intOf i).toNat)
  case atStart => exact ⟨0, Nat.zero_le _, rfl, rfl, rfl⟩
  case round =>
    obtain ⟨k, hk, rfl, rfl, rfl⟩ := hrel
    have hb := FrameP.sums_lt (l.take k)
    obtain ⟨s, hs⟩ : ∃ s, s = FrameP.sums (l.take k) := ⟨_, rfl⟩
    rw [← hs] at hb ⊢
    have hb1 := hb.1
    have hb2 := hb.2
    have HS := hid hs
    clear hb hs
    by_cases hlt : k < n
    · obtain ⟨y, hy⟩ : ∃ y, l[k]? = some y := ⟨_, List.getElem?_eq_getElem (by have := HN.out; omega)⟩
      obtain ⟨a, ha, _, hc⟩ := Ty.byteAt H.out hy
      subst ha
      have hyl := y.toNat_lt
      have HY := hid (take_snoc hy)
      clear hy
      go_wp2
      go_round
      case measure => simp [intOf]; omega
      case rel =>
        refine ⟨k + 1, by omega, by go_num, ?_, ?_⟩
        · rw [HY.out, FrameP.sums_snoc, ← HS.out, ← step_x]
        · rw [HY.out, FrameP.sums_snoc, ← HS.out, ← step_y]
    · have hkn : k = n := by omega
      have hl : l.take k = l := List.take_of_length_le (by have := HN.out; omega)
      have hj : bits BinOp.or IntKind.i64 ((s.2 : Int) * 65536) (s.1 : Int) = (FrameP.sum l : Int) := by
        have := join64 16 (s.2 * 65536) s.1 (by omega) (by omega) (by omega) (by omega)
        rw [← hl, FrameP.sum, ← HS.out, ← this]
        simp
      have HJ := hid hj
      clear hkn hl hj
      go_wp2
      go_ret
      exact ⟨by rw [← HJ.out]; rfl, rfl⟩

set_option maxHeartbeats 1000000 in
theorem refsum_any (A : Option Addr) (n c : Nat) (l : List UInt8) (S : Nat → Prop) (w : World) (h : Ty.At Ty.u8 w S A n c l) :
    Calls Try.prog 63 #[.slice A n c] w fun e w' => e = .returned (.int .i64 (FrameP.sum l : Int)) ∧ w = w' := by
  have H := hid h
  have hn := h.1
  have hm : n ≤ 9223372036854775807 := by have := h.2.1; have := h.2.2.1; simp [maxLen] at this; omega
  have HN := hid hn
  clear h hn
  go_enter Try.func63, Try.ntmps63
  go_wp2
  go_loop [3, 4, 5] (fun x y i => ∃ k : Nat, k ≤ n ∧ i = .int .i64 k ∧ x = .int .i64 ((FrameP.sums (l.take k)).1 : Int) ∧ y = .int .i64 ((FrameP.sums (l.take k)).2 : Int)) (fun _ _ i => n - (intOf i).toNat)
  case atStart => exact ⟨0, Nat.zero_le _, rfl, rfl, rfl⟩
  case round =>
    obtain ⟨k, hk, rfl, rfl, rfl⟩ := hrel
    have hb := FrameP.sums_lt (l.take k)
    obtain ⟨s, hs⟩ : ∃ s, s = FrameP.sums (l.take k) := ⟨_, rfl⟩
    rw [← hs] at hb ⊢
    have hb1 := hb.1
    have hb2 := hb.2
    have HS := hid hs
    clear hb hs
    by_cases hlt : k < n
    · obtain ⟨y, hy⟩ : ∃ y, l[k]? = some y := ⟨_, List.getElem?_eq_getElem (by have := HN.out; omega)⟩
      obtain ⟨a, ha, _, hc⟩ := Ty.byteAt H.out hy
      subst ha
      have hyl := y.toNat_lt
      have HY := hid (take_snoc hy)
      clear hy
      go_wp2
      go_round
      case measure => simp [intOf]; omega
      case rel =>
        refine ⟨k + 1, by omega, by go_num, ?_, ?_⟩
        · rw [HY.out, FrameP.sums_snoc, ← HS.out, ← step_x]
        · rw [HY.out, FrameP.sums_snoc, ← HS.out, ← step_y]
    · have hkn : k = n := by omega
      have hl : l.take k = l := List.take_of_length_le (by have := HN.out; omega)
      have hj : (s.2 : Int) * 65536 + (s.1 : Int) = (FrameP.sum l : Int) := by
        rw [← hl, FrameP.sum, ← HS.out]
        simp
      have HJ := hid hj
      clear hkn hl hj
      go_wp2
      go_ret
      exact ⟨by rw [← HJ.out]; rfl, rfl⟩

theorem byte_int (n : Nat) : ((FrameP.byte n).toNat : Int) = (n : Int) % 256 := by rw [FrameP.byte_toNat]; omega
theorem num4_cells (n : Nat) : u8s (FrameP.num4 n) = [.int .u8 ((n : Int) / 16777216 % 256), .int .u8 ((n : Int) / 65536 % 256), .int .u8 ((n : Int) / 256 % 256), .int .u8 ((n : Int) % 256)] := by
  simp only [u8s, FrameP.num4, List.map_cons, List.map_nil, byte_int]
  simp
/-- A row of one's own in a value written out. -/
def Made (w w' : World) (v : Value) (l : List UInt8) : Prop := w'.ownsRow 0 5 1 v l.length (u8s l) ∧ Chg (fun _ => False) w w' ∧ ∀ k, v.ownBlock = some k → w.heap.size ≤ k
theorem lit_own (w : World) (l : List UInt8) (hl : l.length ≤ 9223372036854775807) : (w.alloc (.cells (u8s l).toArray 5)).ownsRow 0 5 1 (.slice (some ⟨w.heap.size, 0, none⟩) l.length l.length) l.length (u8s l) := by
  have := World.ownsRow_lit (base := 0) (e := 5) (size := 1) w (u8s l).toArray l.length (Nat.zero_le _) (by simp [maxLen]; omega) (by simp)
  simpa using this
theorem lit_sees (w : World) (l : List UInt8) : Sees (w.alloc (.cells (u8s l).toArray 5)) (fun k => k = w.heap.size) (some ⟨w.heap.size, 0, none⟩) (u8s l) := by
  refine .inr ⟨_, rfl, rfl, fun j u hj => ?_⟩
  rw [add_at, Nat.zero_add, cellAt (blk_new w _)]
  simpa using hj
/-- What four does: the row is longer by four bytes. -/
def Longer (w w' : World) (v v' : Value) (l : List UInt8) : Prop := w'.ownsRow 0 5 1 v' l.length (u8s l) ∧ Chg (fun k => v.ownBlock = some k) w w' ∧ ∀ k, v'.ownBlock = some k → v.ownBlock = some k ∨ w.heap.size ≤ k

set_option maxHeartbeats 1000000 in
theorem four_any (A : Option Addr) (n c : Nat) (l : List UInt8) (m : Nat) (w : World) (h : w.ownsRow 0 5 1 (.slice A n c) n (u8s l)) (hl : n ≤ 1048576) (hm : m < 4294967296) :
    Calls Try.prog 59 #[.slice A n c, .int .i64 (m : Int)] w fun e w' => ∃ A' c', e = .returned (.slice A' (n + 4) c') ∧ Longer w w' (.slice A n c) (.slice A' (n + 4) c') (l ++ FrameP.num4 m) := by
  have H := hid h
  have hn : l.length = n := by have := h.1; simpa using this
  have HN := hid hn
  have HC := hid (num4_cells m)
  have HM := hid hm
  clear hm
  have hw : (w.alloc (.cells #[.int .u8 ((m : Int) / 16777216 % 256), .int .u8 ((m : Int) / 65536 % 256), .int .u8 ((m : Int) / 256 % 256), .int .u8 ((m : Int) % 256)] 5)) = (w.alloc (.cells (u8s (FrameP.num4 m)).toArray 5)) := by rw [num4_cells]
  have HW := hid hw
  clear h hn hw
  go_enter Try.func59, Try.ntmps59
  go_wp2_with (first | (at_builtin; refine app_list _ rfl (.tmp 5) (.tmp 17) 36 5 (.int .u8 0) 1 1 rfl Try.underlying36 info5 rfl (by decide) (by decide) (.slice A n c) n (u8s l) rfl (((Chg.refl (fun _ => False) w).alloc _).own H.out (fun _ _ h => h)) (some ⟨w.heap.size, 0, none⟩) 4 4 (u8s (FrameP.num4 m)) (fun k => k = w.heap.size) rfl (by simp) (Nat.le_refl _) (by rw [u8s_length]; rfl) (by have := lit_sees w (FrameP.num4 m); rw [← HW.out] at this; exact this) (u8s_one _) (by omega) ?_; intro A' c' w' h1 h2 h3; have G1 := hid h1; have G2 := hid h2; have G3 := hid h3; clear h1 h2 h3))
  go_ret
  refine ⟨A', c', rfl, ?_, ?_, ?_⟩
  · have := G1.out
    rw [← u8s_append] at this
    have e : (l ++ FrameP.num4 m).length = n + 4 := by rw [List.length_append, HN.out]; rfl
    rw [e]
    exact this
  · exact ((Chg.refl (fun k => (Value.slice A n c).ownBlock = some k) w).alloc _).trans G2.out (fun _ h _ => h)
  · intro k hk
    rcases G3.out k hk with h | h
    · exact .inl h
    · simp at h; exact .inr (by omega)

/-- The first four of at least four bytes. -/
theorem four_cells {A : Option Addr} {n c : Nat} {l : List UInt8} {S : Nat → Prop} {w : World} (h : Ty.At Ty.u8 w S A n c l) (hn : 4 ≤ n) : ∃ a b0 b1 b2 b3, A = some a ∧ FrameP.four l = ((b0 * 256 + b1) * 256 + b2) * 256 + b3 ∧ b0 < 256 ∧ b1 < 256 ∧ b2 < 256 ∧ b3 < 256 ∧
    w.cell? a = some (.int .u8 (b0 : Int)) ∧ w.cell? ⟨a.block, a.off + 1, none⟩ = some (.int .u8 (b1 : Int)) ∧ w.cell? ⟨a.block, a.off + 2, none⟩ = some (.int .u8 (b2 : Int)) ∧ w.cell? ⟨a.block, a.off + 3, none⟩ = some (.int .u8 (b3 : Int)) := by
  have hl := h.1
  have hg : ∀ i, i < 4 → l[i]? = some (l.getD i 0) := fun i hi => by
    rw [List.getD_eq_getElem?_getD, List.getElem?_eq_getElem (by omega)]; rfl
  obtain ⟨a, ha, _, h0⟩ := Ty.byteAt h (hg 0 (by omega))
  obtain ⟨a1, ha1, _, h1⟩ := Ty.byteAt h (hg 1 (by omega))
  obtain ⟨a2, ha2, _, h2⟩ := Ty.byteAt h (hg 2 (by omega))
  obtain ⟨a3, ha3, _, h3⟩ := Ty.byteAt h (hg 3 (by omega))
  subst ha
  injection ha1 with e1
  injection ha2 with e2
  injection ha3 with e3
  subst e1 e2 e3
  refine ⟨a, _, _, _, _, rfl, rfl, UInt8.toNat_lt _, UInt8.toNat_lt _, UInt8.toNat_lt _, UInt8.toNat_lt _, ?_, ?_, ?_, ?_⟩
  · simpa [Addr.add] using h0
  · simpa [Addr.add] using h1
  · simpa [Addr.add] using h2
  · simpa [Addr.add] using h3
theorem four_bits {b0 b1 b2 b3 : Nat} (h0 : b0 < 256) (h1 : b1 < 256) (h2 : b2 < 256) (h3 : b3 < 256) :
    bits BinOp.or IntKind.i64 (bits BinOp.or IntKind.i64 (bits BinOp.or IntKind.i64 ((b0 : Int) * 16777216) ((b1 : Int) * 65536)) ((b2 : Int) * 256)) (b3 : Int) = (((((b0 * 256 + b1) * 256 + b2) * 256 + b3 : Nat)) : Int) := by
  have e1 := join64 24 (b0 * 16777216) (b1 * 65536) (by omega) (by omega) (by omega) (by omega)
  have e2 := join64 16 (b0 * 16777216 + b1 * 65536) (b2 * 256) (by omega) (by omega) (by omega) (by omega)
  have e3 := join64 8 (b0 * 16777216 + b1 * 65536 + b2 * 256) b3 (by omega) (by omega) (by omega) (by omega)
  have c0 : ((b0 : Int) * 16777216) = ((b0 * 16777216 : Nat) : Int) := by omega
  have c1 : ((b1 : Int) * 65536) = ((b1 * 65536 : Nat) : Int) := by omega
  have c2 : ((b2 : Int) * 256) = ((b2 * 256 : Nat) : Int) := by omega
  rw [c0, c1, c2, e1, e2, e3]
  omega

set_option maxHeartbeats 1000000 in
theorem read4_any (A : Option Addr) (n c : Nat) (l : List UInt8) (S : Nat → Prop) (w : World) (h : Ty.At Ty.u8 w S A n c l) (hn : 4 ≤ n) :
    Calls Try.prog 51 #[.slice A n c] w fun e w' => e = .returned (.int .i64 (FrameP.four l : Int)) ∧ ∃ m, w' = w.drewN m := by
  obtain ⟨a, b0, b1, b2, b3, ha, hf, h0, h1, h2, h3, c0, c1, c2, c3⟩ := four_cells h hn
  subst ha
  have HF := hid hf
  have HB := hid (four_bits h0 h1 h2 h3)
  have i0 : (0 : Int) < (n : Int) := by omega
  have i1 : (1 : Int) < (n : Int) := by omega
  have i2 : (2 : Int) < (n : Int) := by omega
  have i3 : (3 : Int) < (n : Int) := by omega
  have j0 : 0 < n := by omega
  have j1 : 1 < n := by omega
  have j2 : 2 < n := by omega
  have j3 : 3 < n := by omega
  have w0 : IntKind.i64.wrap ((b0 : Int) * 16777216) = (b0 : Int) * 16777216 := IntWalk.i64_in _ (by omega)
  have w1 : IntKind.i64.wrap ((b1 : Int) * 65536) = (b1 : Int) * 65536 := IntWalk.i64_in _ (by omega)
  have w2 : IntKind.i64.wrap ((b2 : Int) * 256) = (b2 : Int) * 256 := IntWalk.i64_in _ (by omega)
  clear hf h hn
  go_enter Try.func51, Try.ntmps51
  go_wp2
  go_quiet (fail)
  go_wp2
  go_ret
  refine ⟨?_, _, rfl⟩
  rw [HF.out, ← HB.out]
  rfl

set_option maxHeartbeats 1000000 in
theorem reffour_any (A : Option Addr) (n c : Nat) (l : List UInt8) (S : Nat → Prop) (w : World) (h : Ty.At Ty.u8 w S A n c l) (hn : 4 ≤ n) :
    Calls Try.prog 62 #[.slice A n c] w fun e w' => e = .returned (.int .i64 (FrameP.four l : Int)) ∧ ∃ m, w' = w.drewN m := by
  obtain ⟨a, b0, b1, b2, b3, ha, hf, h0, h1, h2, h3, c0, c1, c2, c3⟩ := four_cells h hn
  subst ha
  have HF := hid hf
  have i0 : (0 : Int) < (n : Int) := by omega
  have i1 : (1 : Int) < (n : Int) := by omega
  have i2 : (2 : Int) < (n : Int) := by omega
  have i3 : (3 : Int) < (n : Int) := by omega
  have j0 : 0 < n := by omega
  have j1 : 1 < n := by omega
  have j2 : 2 < n := by omega
  have j3 : 3 < n := by omega
  obtain ⟨y1, hy1⟩ : ∃ y1 : Nat, y1 = b0 * 256 + b1 := ⟨_, rfl⟩
  obtain ⟨y2, hy2⟩ : ∃ y2 : Nat, y2 = y1 * 256 + b2 := ⟨_, rfl⟩
  obtain ⟨y3, hy3⟩ : ∃ y3 : Nat, y3 = y2 * 256 + b3 := ⟨_, rfl⟩
  have w0 : IntKind.i64.wrap ((b0 : Int) * 256) = (b0 : Int) * 256 := IntWalk.i64_in _ (by omega)
  have w1 : IntKind.i64.wrap ((b0 : Int) * 256 + (b1 : Int)) = (y1 : Int) := by rw [IntWalk.i64_in _ (by omega)]; omega
  have w2 : IntKind.i64.wrap ((y1 : Int) * 256) = (y1 : Int) * 256 := IntWalk.i64_in _ (by omega)
  have w3 : IntKind.i64.wrap ((y1 : Int) * 256 + (b2 : Int)) = (y2 : Int) := by rw [IntWalk.i64_in _ (by omega)]; omega
  have w4 : IntKind.i64.wrap ((y2 : Int) * 256) = (y2 : Int) * 256 := IntWalk.i64_in _ (by omega)
  have w5 : IntKind.i64.wrap ((y2 : Int) * 256 + (b3 : Int)) = (y3 : Int) := by rw [IntWalk.i64_in _ (by omega)]; omega
  have HY := hid (show FrameP.four l = y3 by rw [hf, hy3, hy2, hy1])
  clear hf h hn hy1 hy2 hy3
  go_enter Try.func62, Try.ntmps62
  go_wp2
  go_quiet (fail)
  go_wp2
  go_ret
  refine ⟨?_, _, rfl⟩
  rw [HY.out]
  rfl

theorem own_of_longer {w w' : World} {v v' : Value} {l : List UInt8} (h : Longer w w' v v' l) : w'.ownsRow 0 5 1 v' l.length (u8s l) := h.1

set_option maxHeartbeats 1000000 in
theorem make_any (A : Option Addr) (n c : Nat) (l : List UInt8) (S : Nat → Prop) (w : World) (h : Ty.At Ty.u8 w S A n c l) (hn : n ≤ 65536) :
    Calls Try.prog 37 #[.slice A n c] w fun e w' => ∃ A' c', e = .returned (.tuple #[.slice A' (10 + n) c', .int .i64 0]) ∧ Made w w' (.slice A' (10 + n) c') (FrameP.frame l) := by
  have H := hid h
  have hl := h.1
  have HL := hid hl
  have hc1 := h.2.1
  have hc2 := h.2.2.2.1
  have HC := hid hc2
  have hg : ¬ (65536 : Int) < (n : Int) := by omega
  clear h hl hc2
  go_enter Try.func37, Try.ntmps37
  go_wp2_with fail
  refine (four_any _ 2 2 [67, 70] n _ (lit_own w [67, 70] (by simp)) (by omega) (by omega)).mono ?_
  rintro e w1 ⟨A1, c1, rfl, h1⟩
  have H1 := hid h1
  clear h1
  go_wp2_with fail
  refine (sum_any A n c l S w1 (H.out.chg (((Chg.refl (fun _ => False) w).alloc _).trans (H1.out.2.1.mono (S' := fun k => w.heap.size ≤ k) (fun k hk _ => by simp [Value.ownBlock] at hk; omega)) (fun k hk hlt => by omega)) (fun _ _ h => h))).mono ?_
  rintro e w2 ⟨rfl, rfl⟩
  go_wp2_with fail
  refine (four_any A1 6 c1 _ (FrameP.sum l) _ H1.out.1 (by omega) (FrameP.sum_lt l)).mono ?_
  rintro e w3 ⟨A3, c3, rfl, h3⟩
  have H3 := hid h3
  clear h3
  have hfr : ∀ k, (Value.slice A1 6 c1).ownBlock = some k → w.heap.size ≤ k := fun k hk => by
    rcases H1.out.2.2 k hk with h | h
    · simp [Value.ownBlock] at h; omega
    · simp at h; omega
  have hC3 : Chg (fun _ => False) w w3 := (((Chg.refl (fun _ => False) w).alloc _).trans (H1.out.2.1.mono (S' := fun k => w.heap.size ≤ k) (fun k hk _ => by simp [Value.ownBlock] at hk; omega)) (fun k hk hlt => by omega)).trans (H3.out.2.1.mono (S' := fun k => w.heap.size ≤ k) (fun k hk _ => hfr k hk)) (fun k hk hlt => by omega)
  have hA : Ty.At Ty.u8 w3 S A n c l := H.out.new (hC3.mono (fun _ h _ => h.elim))
  have HFR := hid hfr
  have HC3 := hid hC3
  clear hfr hC3
  have HA := hid hA
  clear hA
  go_wp2_with (first | (at_builtin; refine app_list _ rfl (.tmp 15) (.tmp 16) 36 5 (.int .u8 0) 1 1 rfl Try.underlying36 info5 rfl (by decide) (by decide) (.slice A3 10 c3) 10 _ rfl H3.out.1 A n c (u8s l) S rfl HC.out hc1 (by rw [u8s_length, HL.out]; omega) HA.out.bytes (u8s_one _) (by omega) ?_; intro A' c' w' h1 h2 h3; have G1 := hid h1; have G2 := hid h2; have G3 := hid h3; clear h1 h2 h3))
  go_ret2
  have hfr3 : ∀ k, (Value.slice A3 10 c3).ownBlock = some k → w.heap.size ≤ k := fun k hk => by
    rcases H3.out.2.2 k hk with h | h
    · exact HFR.out k h
    · have := HC3.out.size; have := H1.out.2.1.size; simp at this; omega
  refine ⟨A', c', rfl, ?_, HC3.out.trans (G2.out.mono (S' := fun k => w.heap.size ≤ k) (fun k hk _ => hfr3 k hk)) (fun k hk hlt => by omega), fun k hk => ?_⟩
  · have g1 := G1.out
    have e : (FrameP.frame l).length = 10 + n := by rw [FrameP.frame_length, HL.out]
    have e2 : u8s (FrameP.frame l) = u8s ([67, 70] ++ FrameP.num4 n ++ FrameP.num4 (FrameP.sum l)) ++ u8s l := by rw [← u8s_append, FrameP.frame, HL.out]
    rw [e, e2]
    exact g1
  · rcases G3.out k hk with h | h
    · exact hfr3 k h
    · have := HC3.out.size; omega

set_option maxHeartbeats 1000000 in
theorem make_no (A : Option Addr) (n c : Nat) (w : World) (hn : 65536 < n) :
    Calls Try.prog 37 #[.slice A n c] w fun e w' => e = .returned (.tuple #[.slice none 0 0, .int .i64 12]) ∧ w = w' := by
  go_enter Try.func37, Try.ntmps37
  go_wp2
  go_ret2
  exact ⟨rfl, rfl⟩

end Go.Proofs.Ytfpjickdkkhndaa.Fr


/- Contracts of frame.Read and of its reference, of slices.Clone of bytes, and of the reference's Make. -/

namespace Go.Proofs.Ytfpjickdkkhndaa.Fr

set_option linter.unusedVariables false

set_option linter.unusedSimpArgs false

open Go.RowKit Go.Proofs.Ytfpjickdkkhndaa.C

attribute [local go_sem] max2_int min2_int max_two min_two

set_option maxHeartbeats 400000 in
theorem clone_any (A : Option Addr) (l : List UInt8) (n c : Nat) (S : Nat → Prop) (w : World) (h : Ty.At Ty.u8 w S A n c l) (hl : n ≤ 140737488355328) :
    Calls Try.prog 53 #[.slice A n c] w fun e w' => ∃ A' c', e = .returned (.slice A' n c') ∧ Made w w' (.slice A' n c') l := by
  obtain ⟨hn, hc, _, hA, _⟩ := id h
  have hs := h.bytes
  cases A with
  | none =>
    have := hA rfl
    subst this
    have : l = [] := List.eq_nil_of_length_eq_zero (by omega)
    subst this
    have : n = 0 := by omega
    subst this
    have e1 := fun w => run_eql_slice_nil (P := Try.prog) w 36 5 none 0 0 Try.underlying36
    clear hA hn hc hs hl h
    go_enter Try.func53, Try.ntmps53
    go_wp2
    go_ret
    exact ⟨none, 0, rfl, own_nil _ _ _, Chg.refl _ _, fun k hk => by simp [Value.ownBlock] at hk⟩
  | some a =>
    have e1 := fun w => run_eql_slice_nil (P := Try.prog) w 36 5 (some a) n c Try.underlying36
    have H1 := hid hs
    have H2 := hid hn
    have H3 := hid hc
    have H4 := hid hl
    have H5 := hid (lit_own w [] (by simp))
    clear hs hn hc hl hA h
    go_enter Try.func53, Try.ntmps53
    go_wp2_with (first | (at_builtin; refine app_list _ rfl (.tmp 5) (.tmp 6) 36 5 (.int .u8 0) 1 1 rfl Try.underlying36 info5 rfl (by decide) (by decide) (.slice (some ⟨w.heap.size, 0, none⟩) 0 0) 0 [] rfl H5.out (some a) n c (u8s l) S rfl (by simp) H3.out (by rw [u8s_length, H2.out]; omega) (H1.out.chg ((Chg.refl (fun _ => False) w).alloc _) (fun _ _ h => h)) (u8s_one l) (by have := H4.out; omega) ?_; intro A' c' w' h1 h2 h3; have G1 := hid h1; have G2 := hid h2; have G3 := hid h3; clear h1 h2 h3))
    go_ret
    have g1 := G1.out
    have g3 := G3.out
    rw [Nat.zero_add] at g1 g3
    have hn := H2.out
    refine ⟨A', c', rfl, ?_, ?_, ?_⟩
    · rw [← hn]; simpa using g1
    · exact ((Chg.refl (fun _ => False) w).alloc _).trans G2.out (fun i hi hlt => by simp [Value.ownBlock] at hi; omega)
    · intro k hk
      rcases g3 k hk with h | h
      · simp [Value.ownBlock] at h; omega
      · simp at h; omega

def sizeOf (b : List UInt8) : Nat := if (FrameP.read b).1 = 0 then 10 + (FrameP.read b).2.length else 0
def ReadTo (b : List UInt8) (w : World) (e : Ending) (w' : World) : Prop :=
  ∃ A' c', e = .returned (.tuple #[.slice A' (FrameP.read b).2.length c', .int .i64 (sizeOf b : Int), .int .i64 ((FrameP.read b).1 : Int)]) ∧ Made w w' (.slice A' (FrameP.read b).2.length c') (FrameP.read b).2
theorem made_nil (w : World) (n : Nat) : Made w (w.drewN n) (.slice none 0 0) [] := ⟨own_nil _ _ _, (Chg.refl (fun _ => False) w).drewN n, fun k hk => by simp [Value.ownBlock] at hk⟩
theorem readTo_err {b : List UInt8} {x : Nat} (h : FrameP.read b = (x, [])) (hx : x ≠ 0) (w : World) (n : Nat) : ReadTo b w (.returned (.tuple #[.slice none 0 0, .int .i64 0, .int .i64 (x : Int)])) (w.drewN n) := by
  refine ⟨none, 0, ?_, ?_⟩
  · simp [h, sizeOf, hx]
  · rw [h]; exact made_nil w n

/-- The first two bytes. -/
theorem head_cells {A : Option Addr} {n c : Nat} {l : List UInt8} {S : Nat → Prop} {w : World} (h : Ty.At Ty.u8 w S A n c l) (hn : 2 ≤ n) : ∃ a, A = some a ∧
    w.cell? a = some (.int .u8 ((l.getD 0 0).toNat : Int)) ∧ w.cell? ⟨a.block, a.off + 1, none⟩ = some (.int .u8 ((l.getD 1 0).toNat : Int)) := by
  have hl := h.1
  have hg : ∀ i, i < 2 → l[i]? = some (l.getD i 0) := fun i hi => by
    rw [List.getD_eq_getElem?_getD, List.getElem?_eq_getElem (by omega)]; rfl
  obtain ⟨a, ha, _, h0⟩ := Ty.byteAt h (hg 0 (by omega))
  obtain ⟨a1, ha1, _, h1⟩ := Ty.byteAt h (hg 1 (by omega))
  subst ha
  injection ha1 with e1
  subst e1
  exact ⟨a, rfl, by simpa [Addr.add] using h0, by simpa [Addr.add] using h1⟩

set_option maxHeartbeats 2000000 in
set_option maxRecDepth 100000 in
theorem read_any (A : Option Addr) (n c : Nat) (b : List UInt8) (S : Nat → Prop) (w : World) (h : Ty.At Ty.u8 w S A n c b) :
    Calls Try.prog 30 #[.slice A n c] w (ReadTo b w) := by
  have hl := h.1
  have hc := h.2.1
  have hm := h.2.2.1
  simp only [maxLen] at hm
  by_cases h10 : n < 10
  · have E := hid (show FrameP.read b = (11, []) by unfold FrameP.read; rw [if_pos (by omega)])
    clear hl hc hm h
    go_enter Try.func30, Try.ntmps30
    go_wp2
    go_ret3
    exact readTo_err E.out (by decide) w 0
  obtain ⟨a, ha, c0, c1⟩ := head_cells h (by omega)
  subst ha
  obtain ⟨b0, hb0⟩ : ∃ b0, b0 = b.getD 0 0 := ⟨_, rfl⟩
  obtain ⟨b1, hb1⟩ : ∃ b1, b1 = b.getD 1 0 := ⟨_, rfl⟩
  rw [← hb0] at c0
  rw [← hb1] at c1
  have i0 : (0 : Int) < (n : Int) := by omega
  have i1 : (1 : Int) < (n : Int) := by omega
  have h10' : ¬ (n : Int) < 10 := by omega
  by_cases hd0 : b0 = 67
  case neg =>
    have E := hid (show FrameP.read b = (10, []) by unfold FrameP.read; rw [if_neg (by omega), if_pos (by rw [← hb0]; exact .inl hd0)])
    have hx : ((b0.toNat : Int) != 67) = true := by rw [bne_iff_ne]; intro h; exact hd0 (UInt8.toNat_inj.1 (by show b0.toNat = 67; omega))
    clear hl hc hm h hd0 hb0 hb1
    go_enter Try.func30, Try.ntmps30
    go_wp2
    go_ret3
    exact readTo_err E.out (by decide) w 0
  have hx0 : ((b0.toNat : Int) != 67) = false := by rw [hd0]; rfl
  by_cases hd1 : b1 = 70
  case neg =>
    have E := hid (show FrameP.read b = (10, []) by unfold FrameP.read; rw [if_neg (by omega), if_pos (by rw [← hb1]; exact .inr hd1)])
    have hx : ((b1.toNat : Int) != 70) = true := by rw [bne_iff_ne]; intro h; exact hd1 (UInt8.toNat_inj.1 (by show b1.toNat = 70; omega))
    clear hl hc hm h hd0 hb0 hb1 hd1
    go_enter Try.func30, Try.ntmps30
    go_wp2
    go_ret3
    exact readTo_err E.out (by decide) w 0
  have hx1 : ((b1.toNat : Int) != 70) = false := by rw [hd1]; rfl
  have H := hid h
  obtain ⟨A2, c2, hcut2, hat2⟩ := Ty.At.from_ (P := Try.prog) (d := Ty.u8) Try.underlying36 info5 (some a) n c 2 (n - 2) 2 rfl (by omega) rfl
  obtain ⟨A6, c6, hcut6, hat6⟩ := Ty.At.from_ (P := Try.prog) (d := Ty.u8) Try.underlying36 info5 (some a) n c 6 (n - 6) 6 rfl (by omega) rfl
  have HAT2 := hid hat2
  have HAT6 := hid hat6
  obtain ⟨m, hmm⟩ : ∃ m, m = FrameP.four (b.drop 2) := ⟨_, rfl⟩
  have hhead : ¬ (b.getD 0 0 ≠ 67 ∨ b.getD 1 0 ≠ 70) := by rw [← hb0, ← hb1, hd0, hd1]; simp
  by_cases hbig : 65536 < m
  · have E := hid (show FrameP.read b = (12, []) by unfold FrameP.read; rw [if_neg (by omega), if_neg hhead, if_pos (by omega)])
    have HM := hid hmm
    have g : (65536 : Int) < (m : Int) := by omega
    clear hl hc hm h hd0 hb0 hb1 hd1 hhead hat2 hat6 hmm
    go_enter Try.func30, Try.ntmps30
    go_wp2_with fail
    refine (read4_any A2 (n - 2) c2 (b.drop 2) S w (HAT2.out w S b H.out) (by omega)).mono ?_
    rintro e w1 ⟨rfl, k, rfl⟩
    rw [← HM.out]
    go_wp2
    go_ret3
    exact readTo_err E.out (by decide) w k
  by_cases hshort : n - 10 < m
  · have E := hid (show FrameP.read b = (11, []) by unfold FrameP.read; rw [if_neg (by omega), if_neg hhead, if_neg (by omega), if_pos (by omega)])
    have HM := hid hmm
    have g : ¬ (65536 : Int) < (m : Int) := by omega
    have g2 : (n : Int) - 10 < (m : Int) := by omega
    clear hl hc h hd0 hb0 hb1 hd1 hhead hat2 hat6 hmm
    go_enter Try.func30, Try.ntmps30
    go_wp2_with fail
    refine (read4_any A2 (n - 2) c2 (b.drop 2) S w (HAT2.out w S b H.out) (by omega)).mono ?_
    rintro e w1 ⟨rfl, k, rfl⟩
    rw [← HM.out]
    go_wp2
    go_ret3
    exact readTo_err E.out (by decide) w k
  have g : ¬ (65536 : Int) < (m : Int) := by omega
  have g2 : ¬ (n : Int) - 10 < (m : Int) := by omega
  have hnm : (n : Int) ≤ 9223372036854775807 := by omega
  have hadd : IntKind.i64.wrap (10 + (m : Int)) = 10 + (m : Int) := IntWalk.i64_in _ (by omega)
  obtain ⟨A10, c10, hcut10, hat10⟩ := Ty.At.mid_ (P := Try.prog) (d := Ty.u8) Try.underlying36 info5 (some a) n c 10 (10 + m) m 10 (10 + (m : Int)) rfl (by omega) (by omega) (by omega) hc (by omega)
  have HAT10 := hid hat10
  have hbody : (b.take (10 + m)).drop 10 = (b.drop 10).take m := by rw [List.drop_take]; congr 1; omega
  have HBODY := hid hbody
  obtain ⟨sm, hsm⟩ : ∃ sm, sm = FrameP.sum ((b.drop 10).take m) := ⟨_, rfl⟩
  obtain ⟨s6, hs6⟩ : ∃ s6, s6 = FrameP.four (b.drop 6) := ⟨_, rfl⟩
  have HSM := hid hsm
  have HS6 := hid hs6
  have HM := hid hmm
  have hr4 : ∀ wx : World, Chg (fun _ => False) w wx → Calls Try.prog 51 #[.slice A6 (n - 6) c6] wx fun e w' => e = .returned (.int .i64 (s6 : Int)) ∧ ∃ j, w' = wx.drewN j := fun wx hx => by
    rw [HS6.out]; exact read4_any A6 (n - 6) c6 (b.drop 6) S _ (HAT6.out _ S b (H.out.chg hx (fun _ _ h => h))) (by omega)
  have hrs : ∀ wx : World, Chg (fun _ => False) w wx → Calls Try.prog 52 #[.slice A10 m c10] wx fun e w' => e = .returned (.int .i64 (sm : Int)) ∧ w' = wx := fun wx hx => by
    rw [HSM.out, ← HBODY.out]
    exact (sum_any A10 m c10 _ S _ (HAT10.out _ S b (H.out.chg hx (fun _ _ h => h)))).mono (fun _ _ h => ⟨h.1, h.2.symm⟩)
  have HR4 := hid hr4
  have HRS := hid hrs
  by_cases hse : s6 = sm
  · have E := hid (show FrameP.read b = (0, (b.drop 10).take m) by unfold FrameP.read; rw [if_neg (by omega), if_neg hhead, if_neg (by omega), if_neg (by omega), ← hmm, ← hs6, ← hsm, if_neg (by simp [hse])])
    have hx : ((s6 : Int) != (sm : Int)) = false := by rw [hse]; simp
    have HLEN := hid (show ((b.drop 10).take m).length = m by rw [List.length_take, List.length_drop]; omega)
    clear hl hc h hd0 hb0 hb1 hd1 hhead hat2 hat6 hat10 hmm hsm hs6 hr4 hrs hse hbody
    go_enter Try.func30, Try.ntmps30
    go_wp2_with fail
    refine (read4_any A2 (n - 2) c2 (b.drop 2) S w (HAT2.out w S b H.out) (by omega)).mono ?_
    rintro e w1 ⟨rfl, hk⟩
    have HK := hid hk
    have HKC := hid (show Chg (fun _ => False) w w1 by obtain ⟨k, rfl⟩ := hk; exact (Chg.refl (fun _ => False) w).drewN _)
    clear hk
    rw [← HM.out]
    go_wp2_with fail
    go_quiet ((first | (go_at_call 51; exact Calls.quiet_of (HR4.out _ (HKC.out.drewN _))) | (go_at_call 52; exact Calls.quiet_of_same (HRS.out _ (HKC.out.drewN _)))))
    go_wp2_with fail
    refine (clone_any A10 _ m c10 S _ (HAT10.out _ S b (H.out.chg (HKC.out.drewN _) (fun _ _ h => h))) (by omega)).mono ?_
    rintro e w2 ⟨A', c', rfl, h1, h2, h3⟩
    rw [HBODY.out] at h1
    have H1 := hid h1
    have H2 := hid h2
    have H3 := hid h3
    clear h1 h2 h3
    go_wp2
    go_ret3
    refine ⟨A', c', ?_, ?_⟩
    · rw [E.out]
      simp [sizeOf, E.out, HLEN.out]
    · rw [E.out]
      have e1 : (((b.drop 10).take m)).length = m := HLEN.out
      show Made w w2 (.slice A' ((b.drop 10).take m).length c') ((b.drop 10).take m)
      rw [e1]
      exact ⟨by rw [e1]; have := H1.out; rw [e1] at this; exact this, (HKC.out.drewN _).trans H2.out (fun _ h _ => h), fun k hk => by have := H3.out k hk; have := HKC.out.size; simp at *; omega⟩
  · have E := hid (show FrameP.read b = (15, []) by unfold FrameP.read; rw [if_neg (by omega), if_neg hhead, if_neg (by omega), if_neg (by omega), ← hmm, ← hs6, ← hsm, if_pos hse])
    have hx : ((s6 : Int) != (sm : Int)) = true := by rw [bne_iff_ne]; omega
    clear hl hc h hd0 hb0 hb1 hd1 hhead hat2 hat6 hat10 hmm hsm hs6 hr4 hrs hse hbody
    go_enter Try.func30, Try.ntmps30
    go_wp2_with fail
    refine (read4_any A2 (n - 2) c2 (b.drop 2) S w (HAT2.out w S b H.out) (by omega)).mono ?_
    rintro e w1 ⟨rfl, hk⟩
    have HK := hid hk
    have HKC := hid (show Chg (fun _ => False) w w1 by obtain ⟨k, rfl⟩ := hk; exact (Chg.refl (fun _ => False) w).drewN _)
    clear hk
    rw [← HM.out]
    go_wp2_with fail
    go_quiet ((first | (go_at_call 51; exact Calls.quiet_of (HR4.out _ (HKC.out.drewN _))) | (go_at_call 52; exact Calls.quiet_of_same (HRS.out _ (HKC.out.drewN _)))))
    go_wp2
    go_ret3
    obtain ⟨k, rfl⟩ := HK.out
    rw [World.drewN_drewN]
    exact readTo_err E.out (by decide) w _

/-- The reference's Read hands a part of the bytes back. -/
def RefReadTo (b : List UInt8) (S : Nat → Prop) (w : World) (e : Ending) (w' : World) : Prop :=
  ∃ A' c', e = .returned (.tuple #[.slice A' (FrameP.read b).2.length c', .int .i64 ((FrameP.read b).1 : Int)]) ∧ Ty.At Ty.u8 w S A' (FrameP.read b).2.length c' (FrameP.read b).2 ∧ ∃ m, w' = w.drewN m
theorem at_nil (w : World) (S : Nat → Prop) : Ty.At Ty.u8 w S none 0 0 [] := ⟨rfl, Nat.le_refl _, by simp [maxLen], fun _ => rfl, [], .nil _ _ _, Ty.Row.nil _ _ _⟩
theorem refReadTo_err {b : List UInt8} {x : Nat} (h : FrameP.read b = (x, [])) (S : Nat → Prop) (w w' : World) (hw : ∃ m, w' = w.drewN m) : RefReadTo b S w (.returned (.tuple #[.slice none 0 0, .int .i64 (x : Int)])) w' := by
  refine ⟨none, 0, ?_, ?_, hw⟩
  · simp [h]
  · rw [h]; exact at_nil w S

set_option maxHeartbeats 2000000 in
set_option maxRecDepth 100000 in
theorem refread_any (A : Option Addr) (n c : Nat) (b : List UInt8) (S : Nat → Prop) (w : World) (h : Ty.At Ty.u8 w S A n c b) :
    Calls Try.prog 42 #[.slice A n c] w (RefReadTo b S w) := by
  have hl := h.1
  have hc := h.2.1
  have hm := h.2.2.1
  simp only [maxLen] at hm
  by_cases h10 : n < 10
  · have E := hid (show FrameP.read b = (11, []) by unfold FrameP.read; rw [if_pos (by omega)])
    clear hl hc hm h
    go_enter Try.func42, Try.ntmps42
    go_wp2
    go_ret2
    exact refReadTo_err E.out S w w ⟨0, rfl⟩
  obtain ⟨a, ha, c0, c1⟩ := head_cells h (by omega)
  subst ha
  obtain ⟨b0, hb0⟩ : ∃ b0, b0 = b.getD 0 0 := ⟨_, rfl⟩
  obtain ⟨b1, hb1⟩ : ∃ b1, b1 = b.getD 1 0 := ⟨_, rfl⟩
  rw [← hb0] at c0
  rw [← hb1] at c1
  have i0 : (0 : Int) < (n : Int) := by omega
  have i1 : (1 : Int) < (n : Int) := by omega
  have h10' : ¬ (n : Int) < 10 := by omega
  by_cases hd0 : b0 = 67
  case neg =>
    have E := hid (show FrameP.read b = (10, []) by unfold FrameP.read; rw [if_neg (by omega), if_pos (by rw [← hb0]; exact .inl hd0)])
    have hx : ((b0.toNat : Int) != 67) = true := by rw [bne_iff_ne]; intro h; exact hd0 (UInt8.toNat_inj.1 (by show b0.toNat = 67; omega))
    clear hl hc hm h hd0 hb0 hb1
    go_enter Try.func42, Try.ntmps42
    go_wp2
    go_ret2
    exact refReadTo_err E.out S w w ⟨0, rfl⟩
  have hx0 : ((b0.toNat : Int) != 67) = false := by rw [hd0]; rfl
  by_cases hd1 : b1 = 70
  case neg =>
    have E := hid (show FrameP.read b = (10, []) by unfold FrameP.read; rw [if_neg (by omega), if_pos (by rw [← hb1]; exact .inr hd1)])
    have hx : ((b1.toNat : Int) != 70) = true := by rw [bne_iff_ne]; intro h; exact hd1 (UInt8.toNat_inj.1 (by show b1.toNat = 70; omega))
    clear hl hc hm h hd0 hb0 hb1 hd1
    go_enter Try.func42, Try.ntmps42
    go_wp2
    go_ret2
    exact refReadTo_err E.out S w w ⟨0, rfl⟩
  have hx1 : ((b1.toNat : Int) != 70) = false := by rw [hd1]; rfl
  have H := hid h
  obtain ⟨A2, c2, hcut2, hat2⟩ := Ty.At.mid_ (P := Try.prog) (d := Ty.u8) Try.underlying36 info5 (some a) n c 2 6 4 2 6 rfl rfl (by omega) (by omega) hc rfl
  obtain ⟨A6, c6, hcut6, hat6⟩ := Ty.At.mid_ (P := Try.prog) (d := Ty.u8) Try.underlying36 info5 (some a) n c 6 10 4 6 10 rfl rfl (by omega) (by omega) hc rfl
  have four_take : ∀ k, FrameP.four ((b.take (k + 4)).drop k) = FrameP.four (b.drop k) := fun k => by
    simp only [FrameP.four, List.getD_eq_getElem?_getD, List.getElem?_drop, List.getElem?_take]
    simp
  have HAT2 := hid hat2
  have HAT6 := hid hat6
  obtain ⟨m, hmm⟩ : ∃ m, m = FrameP.four (b.drop 2) := ⟨_, rfl⟩
  have HM := hid (show FrameP.four ((b.take 6).drop 2) = m by rw [hmm]; exact four_take 2)
  have hhead : ¬ (b.getD 0 0 ≠ 67 ∨ b.getD 1 0 ≠ 70) := by rw [← hb0, ← hb1, hd0, hd1]; simp
  by_cases hbig : 65536 < m
  · have E := hid (show FrameP.read b = (12, []) by unfold FrameP.read; rw [if_neg (by omega), if_neg hhead, if_pos (by omega)])
    have g : (65536 : Int) < (m : Int) := by omega
    clear hl hc hm h hd0 hb0 hb1 hd1 hhead hat2 hat6 hmm four_take
    go_enter Try.func42, Try.ntmps42
    go_wp2_with fail
    refine (reffour_any A2 4 c2 _ S w (HAT2.out w S b H.out) (by omega)).mono ?_
    rintro e w1 ⟨rfl, k, rfl⟩
    rw [HM.out]
    go_wp2
    go_ret2
    exact refReadTo_err E.out S w _ ⟨k, rfl⟩
  have hadd : IntKind.i64.wrap (10 + (m : Int)) = 10 + (m : Int) := IntWalk.i64_in _ (by omega)
  by_cases hshort : n < 10 + m
  · have E := hid (show FrameP.read b = (11, []) by unfold FrameP.read; rw [if_neg (by omega), if_neg hhead, if_neg (by omega), if_pos (by omega)])
    have g : ¬ (65536 : Int) < (m : Int) := by omega
    have g2 : (n : Int) < 10 + (m : Int) := by omega
    clear hl hc h hd0 hb0 hb1 hd1 hhead hat2 hat6 hmm four_take
    go_enter Try.func42, Try.ntmps42
    go_wp2_with fail
    refine (reffour_any A2 4 c2 _ S w (HAT2.out w S b H.out) (by omega)).mono ?_
    rintro e w1 ⟨rfl, k, rfl⟩
    rw [HM.out]
    go_wp2
    go_ret2
    exact refReadTo_err E.out S w _ ⟨k, rfl⟩
  have g : ¬ (65536 : Int) < (m : Int) := by omega
  have g2 : ¬ (n : Int) < 10 + (m : Int) := by omega
  have hnm : (n : Int) ≤ 9223372036854775807 := by omega
  obtain ⟨A10, c10, hcut10, hat10⟩ := Ty.At.mid_ (P := Try.prog) (d := Ty.u8) Try.underlying36 info5 (some a) n c 10 (10 + m) m 10 (10 + (m : Int)) rfl (by omega) (by omega) (by omega) hc (by omega)
  have HAT10 := hid hat10
  have hbody : (b.take (10 + m)).drop 10 = (b.drop 10).take m := by rw [List.drop_take]; congr 1; omega
  have HBODY := hid hbody
  obtain ⟨sm, hsm⟩ : ∃ sm, sm = FrameP.sum ((b.drop 10).take m) := ⟨_, rfl⟩
  obtain ⟨s6, hs6⟩ : ∃ s6, s6 = FrameP.four (b.drop 6) := ⟨_, rfl⟩
  have HSM := hid hsm
  have HS6 := hid (show FrameP.four ((b.take 10).drop 6) = s6 by rw [hs6]; exact four_take 6)
  have hr4 : ∀ wx : World, Chg (fun _ => False) w wx → Calls Try.prog 62 #[.slice A6 4 c6] wx fun e w' => e = .returned (.int .i64 (s6 : Int)) ∧ ∃ j, w' = wx.drewN j := fun wx hx => by
    rw [← HS6.out]; exact reffour_any A6 4 c6 _ S _ (HAT6.out _ S b (H.out.chg hx (fun _ _ h => h))) (by omega)
  have hrs : ∀ wx : World, Chg (fun _ => False) w wx → Calls Try.prog 63 #[.slice A10 m c10] wx fun e w' => e = .returned (.int .i64 (sm : Int)) ∧ w' = wx := fun wx hx => by
    rw [HSM.out, ← HBODY.out]
    exact (refsum_any A10 m c10 _ S _ (HAT10.out _ S b (H.out.chg hx (fun _ _ h => h)))).mono (fun _ _ h => ⟨h.1, h.2.symm⟩)
  have HR4 := hid hr4
  have HRS := hid hrs
  by_cases hse : s6 = sm
  · have E := hid (show FrameP.read b = (0, (b.drop 10).take m) by unfold FrameP.read; rw [if_neg (by omega), if_neg hhead, if_neg (by omega), if_neg (by omega), ← hmm, ← hs6, ← hsm, if_neg (by simp [hse])])
    have hx : ((s6 : Int) != (sm : Int)) = false := by rw [hse]; simp
    have HLEN := hid (show ((b.drop 10).take m).length = m by rw [List.length_take, List.length_drop]; omega)
    clear hl hc h hd0 hb0 hb1 hd1 hhead hat2 hat6 hat10 hmm hsm hs6 hr4 hrs hse hbody four_take
    go_enter Try.func42, Try.ntmps42
    go_wp2_with fail
    refine (reffour_any A2 4 c2 _ S w (HAT2.out w S b H.out) (by omega)).mono ?_
    rintro e w1 ⟨rfl, hk⟩
    have HK := hid hk
    have HKC := hid (show Chg (fun _ => False) w w1 by obtain ⟨k, rfl⟩ := hk; exact (Chg.refl (fun _ => False) w).drewN _)
    clear hk
    rw [HM.out]
    go_wp2_with fail
    go_quiet ((first | (go_at_call 62; exact Calls.quiet_of (HR4.out _ (HKC.out.drewN _))) | (go_at_call 63; exact Calls.quiet_of_same (HRS.out _ (HKC.out.drewN _)))))
    go_wp2
    go_ret2
    obtain ⟨k, hk⟩ := HK.out
    refine ⟨A10, c10, ?_, ?_, ⟨_, by rw [hk, World.drewN_drewN]⟩⟩
    · rw [E.out]
      simp [HLEN.out]
    · rw [E.out]
      show Ty.At Ty.u8 w S A10 ((b.drop 10).take m).length c10 ((b.drop 10).take m)
      rw [HLEN.out, ← HBODY.out]
      exact HAT10.out w S b H.out
  · have E := hid (show FrameP.read b = (15, []) by unfold FrameP.read; rw [if_neg (by omega), if_neg hhead, if_neg (by omega), if_neg (by omega), ← hmm, ← hs6, ← hsm, if_pos hse])
    have hx : ((s6 : Int) != (sm : Int)) = true := by rw [bne_iff_ne]; omega
    clear hl hc h hd0 hb0 hb1 hd1 hhead hat2 hat6 hat10 hmm hsm hs6 hr4 hrs hse hbody four_take
    go_enter Try.func42, Try.ntmps42
    go_wp2_with fail
    refine (reffour_any A2 4 c2 _ S w (HAT2.out w S b H.out) (by omega)).mono ?_
    rintro e w1 ⟨rfl, hk⟩
    have HK := hid hk
    have HKC := hid (show Chg (fun _ => False) w w1 by obtain ⟨k, rfl⟩ := hk; exact (Chg.refl (fun _ => False) w).drewN _)
    clear hk
    rw [HM.out]
    go_wp2_with fail
    go_quiet ((first | (go_at_call 62; exact Calls.quiet_of (HR4.out _ (HKC.out.drewN _))) | (go_at_call 63; exact Calls.quiet_of_same (HRS.out _ (HKC.out.drewN _)))))
    go_wp2
    go_ret2
    obtain ⟨k, hk⟩ := HK.out
    exact refReadTo_err E.out S w _ ⟨_, by rw [hk, World.drewN_drewN]⟩

end Go.Proofs.Ytfpjickdkkhndaa.Fr


/- The contract of the reference's Make. -/

namespace Go.Proofs.Ytfpjickdkkhndaa.Fr

set_option linter.unusedVariables false

set_option linter.unusedSimpArgs false

open Go.RowKit Go.Proofs.Ytfpjickdkkhndaa.C

attribute [local go_sem] max2_int min2_int max_two min_two

theorem get_of_drop {α : Type} {l : List α} {i : Nat} {o : α} {r : List α} (h : l.drop i = o :: r) : l.toArray[i]? = some o := by
  have h2 : (l.drop i)[0]? = some o := by rw [h]; rfl
  rw [List.getElem?_drop] at h2
  simpa using h2
theorem own_At {w : World} {base m n c : Nat} {A : Option Addr} {l : List UInt8} (h : w.ownsRow base 5 1 (.slice A n c) m (u8s l)) (hm : m = n) : Ty.At Ty.u8 w (fun k => (Value.slice A n c).ownBlock = some k) A n c l := by
  subst hm
  obtain ⟨h1, h2, h3, h4⟩ := own_at h
  exact Ty.At.of_bytes (by have := h.1; simpa using this.symm) h1 h2 h3 h4
theorem at_str {w : World} {S : Nat → Prop} {A : Option Addr} {n c : Nat} {l : List UInt8} (h : Ty.At Ty.u8 w S A n c l) : (convert 36 9 (.slice A n c)).run Try.prog w = .ok (.string (bstr l)) w :=
  str_run (P := Try.prog) (src := 36) (dst := 9) (e := 5) (l := l) Try.underlying36 Try.underlying5 Try.underlying9 h.1 h.bytes h.2.2.2.1 h.2.1
theorem Made.chg {w w1 w2 : World} {v : Value} {l : List UInt8} {S : Nat → Prop} (h : Made w w1 v l) (hc : Chg S w1 w2) (hS : ∀ k, v.ownBlock = some k → ¬ S k) (hS' : ∀ k, S k → w.heap.size ≤ k) : Made w w2 v l :=
  ⟨hc.own h.1 hS, h.2.1.trans hc (fun k hk hlt => by have := hS' k hk; omega), h.2.2⟩

end Go.Proofs.Ytfpjickdkkhndaa.Fr


/- States and records of a ledger as plain data: what is right, how a record is applied, the records between two states, and what bytes tell. No program in sight. -/

namespace Go.Proofs.Ytfpjickdkkhndaa.Pa

set_option linter.unusedVariables false

structure St where
  view : Int
  normal : Int
  commit : Int
  active : Int
  log : List Entry
deriving DecidableEq
def st0 : St := ⟨0, 0, 0, 0, []⟩
/-- Is a state right? -/
def stR (s : St) : Bool := decide (0 ≤ s.view ∧ s.view ≤ 1099511627776 ∧ 0 ≤ s.normal ∧ s.normal ≤ s.view ∧ (s.log.length : Int) ≤ 64 ∧ 0 ≤ s.commit ∧ s.commit ≤ (s.log.length : Int) ∧ 0 ≤ s.active ∧ s.active ≤ 64) && s.log.all (fun e => entryR e)
theorem stR_iff {s : St} : stR s = true ↔ (0 ≤ s.view ∧ s.view ≤ 1099511627776 ∧ 0 ≤ s.normal ∧ s.normal ≤ s.view ∧ (s.log.length : Int) ≤ 64 ∧ 0 ≤ s.commit ∧ s.commit ≤ (s.log.length : Int) ∧ 0 ≤ s.active ∧ s.active ≤ 64) ∧ ∀ e ∈ s.log, entryR e = true := by
  unfold stR
  rw [Bool.and_eq_true, decide_eq_true_eq, List.all_eq_true]
theorem stR0 : stR st0 = true := by decide
/-- A right record applied to a right state. -/
def applyS (s : St) (r : Rec) : Option St :=
  if r.kind = 1 then (if s.view ≤ r.a ∧ s.normal ≤ r.b ∧ r.b ≤ r.a then some { s with view := r.a, normal := r.b } else none)
  else if r.kind = 2 then (if (s.log.length : Int) < 64 then some { s with log := s.log ++ r.log } else none)
  else if r.kind = 3 then (if s.commit ≤ r.a ∧ r.a ≤ (s.log.length : Int) then some { s with log := s.log.take r.a.toNat } else none)
  else if r.kind = 4 then (if s.commit ≤ r.a ∧ r.a ≤ (s.log.length : Int) then some { s with commit := r.a } else none)
  else if r.kind = 5 then (if r.a ≤ 64 then some { s with active := r.a } else none)
  else none
theorem recR_iff {r : Rec} : recR r = true ↔ ((1 ≤ r.kind ∧ r.kind ≤ 5) ∧ (0 ≤ r.a ∧ r.a ≤ 1099511627776) ∧ (0 ≤ r.b ∧ r.b ≤ 1099511627776)) ∧ (if r.kind = 2 then r.log.length = 1 ∧ ∀ e ∈ r.log, entryR e = true else r.log.length = 0) := by
  unfold recR logR inR numR
  constructor
  · intro h
    simp only [Bool.and_eq_true, decide_eq_true_eq] at h
    refine ⟨⟨h.1.1.1, h.1.1.2, h.1.2⟩, ?_⟩
    have h2 := h.2
    split
    · rw [if_pos (by assumption)] at h2
      simp only [Bool.and_eq_true, decide_eq_true_eq, List.all_eq_true] at h2
      exact ⟨by omega, h2.2⟩
    · rw [if_neg (by assumption)] at h2
      exact of_decide_eq_true h2
  · rintro ⟨⟨h1, h2, h3⟩, h4⟩
    simp only [Bool.and_eq_true, decide_eq_true_eq]
    refine ⟨⟨⟨h1, h2⟩, h3⟩, ?_⟩
    split
    · rw [if_pos (by assumption)] at h4
      simp only [Bool.and_eq_true, decide_eq_true_eq, List.all_eq_true]
      exact ⟨by omega, h4.2⟩
    · rw [if_neg (by assumption)] at h4
      exact decide_eq_true h4
theorem applyS_right {s t : St} {r : Rec} (hs : stR s = true) (hr : recR r = true) (h : applyS s r = some t) : stR t = true := by
  rw [stR_iff] at hs ⊢
  rw [recR_iff] at hr
  obtain ⟨⟨h1, h2, h3, h4, h5, h6, h7, h8, h9⟩, h10⟩ := hs
  obtain ⟨⟨k1, k2, k3⟩, k4⟩ := hr
  unfold applyS at h
  split at h
  · split at h
    · injection h with h; subst h
      exact ⟨⟨by show (0 : Int) ≤ r.a; omega, by show r.a ≤ _; omega, by show (0 : Int) ≤ r.b; omega, by show r.b ≤ r.a; omega, h5, h6, h7, h8, h9⟩, h10⟩
    · cases h
  split at h
  · rename_i hk
    split at h
    · injection h with h; subst h
      rw [if_pos hk] at k4
      have e : ((s.log ++ r.log).length : Int) = s.log.length + 1 := by rw [List.length_append, k4.1]; omega
      refine ⟨⟨h1, h2, h3, h4, by show ((s.log ++ r.log).length : Int) ≤ 64; omega, h6, by show s.commit ≤ ((s.log ++ r.log).length : Int); omega, h8, h9⟩, fun e he => ?_⟩
      rcases List.mem_append.1 he with he | he
      · exact h10 e he
      · exact k4.2 e he
    · cases h
  split at h
  · split at h
    · rename_i hq
      injection h with h; subst h
      have e : ((s.log.take r.a.toNat).length : Int) = r.a := by rw [List.length_take]; omega
      refine ⟨⟨h1, h2, h3, h4, by show ((s.log.take r.a.toNat).length : Int) ≤ 64; omega, h6, by show s.commit ≤ ((s.log.take r.a.toNat).length : Int); omega, h8, h9⟩, fun e he => h10 e (List.mem_of_mem_take he)⟩
    · cases h
  split at h
  · split at h
    · injection h with h; subst h
      exact ⟨⟨h1, h2, h3, h4, h5, by show (0 : Int) ≤ r.a; omega, by show r.a ≤ (s.log.length : Int); omega, h8, h9⟩, h10⟩
    · cases h
  split at h
  · split at h
    · injection h with h; subst h
      exact ⟨⟨h1, h2, h3, h4, h5, h6, h7, by show (0 : Int) ≤ r.a; omega, by show r.a ≤ 64; omega⟩, h10⟩
    · cases h
  · cases h
def applyAll : St → List Rec → Option St
  | s, [] => some s
  | s, r :: l => match applyS s r with
    | none => none
    | some t => applyAll t l
theorem applyS1 {s : St} {a b : Int} {l : List Entry} : applyS s ⟨1, a, b, l⟩ = if s.view ≤ a ∧ s.normal ≤ b ∧ b ≤ a then some { s with view := a, normal := b } else none := by simp [applyS]
theorem applyS2 {s : St} {a b : Int} {l : List Entry} : applyS s ⟨2, a, b, l⟩ = if (s.log.length : Int) < 64 then some { s with log := s.log ++ l } else none := by simp [applyS]
theorem applyS3 {s : St} {a b : Int} {l : List Entry} : applyS s ⟨3, a, b, l⟩ = if s.commit ≤ a ∧ a ≤ (s.log.length : Int) then some { s with log := s.log.take a.toNat } else none := by simp [applyS]
theorem applyS4 {s : St} {a b : Int} {l : List Entry} : applyS s ⟨4, a, b, l⟩ = if s.commit ≤ a ∧ a ≤ (s.log.length : Int) then some { s with commit := a } else none := by simp [applyS]
theorem applyS5 {s : St} {a b : Int} {l : List Entry} : applyS s ⟨5, a, b, l⟩ = if a ≤ 64 then some { s with active := a } else none := by simp [applyS]
theorem applyAll_one (s : St) (r : Rec) : applyAll s [r] = applyS s r := by
  show (match applyS s r with | none => none | some t => some t) = _
  cases applyS s r <;> rfl
theorem applyAll_append : ∀ (s : St) (l m : List Rec), applyAll s (l ++ m) = (applyAll s l).bind fun t => applyAll t m
  | s, [], m => rfl
  | s, r :: l, m => by
    show (match applyS s r with | none => none | some t => applyAll t (l ++ m)) = Option.bind (match applyS s r with | none => none | some t => applyAll t l) _
    cases applyS s r with
    | none => rfl
    | some t => exact applyAll_append t l m
/-- How long the common beginning of two logs is. -/
def common : List Entry → List Entry → Nat
  | a :: l, b :: m => if a = b then common l m + 1 else 0
  | _, _ => 0
theorem common_le : ∀ (l m : List Entry), common l m ≤ l.length ∧ common l m ≤ m.length
  | [], m => by simp [common]
  | a :: l, [] => by simp [common]
  | a :: l, b :: m => by
    unfold common
    split
    · have := common_le l m
      simp only [List.length_cons]
      omega
    · simp
theorem common_take : ∀ (l m : List Entry), l.take (common l m) = m.take (common l m)
  | [], m => by simp [common]
  | a :: l, [] => by simp [common]
  | a :: l, b :: m => by
    unfold common
    split
    · rename_i h
      rw [List.take_succ_cons, List.take_succ_cons, common_take l m, h]
    · rfl
theorem common_step : ∀ (l m : List Entry) (k : Nat), k ≤ common l m → (k < common l m ↔ ∃ e, l[k]? = some e ∧ m[k]? = some e)
  | [], m, k, h => by simp [common] at h ⊢
  | a :: l, [], k, h => by simp [common] at h ⊢
  | a :: l, b :: m, k, h => by
    unfold common at h ⊢
    split
    · rename_i e
      rw [if_pos e] at h
      subst e
      cases k with
      | zero => simp
      | succ k =>
        have := common_step l m k (by omega)
        simp only [List.getElem?_cons_succ]
        rw [← this]
        omega
    · rename_i e
      rw [if_neg e] at h
      have : k = 0 := by omega
      subst this
      simp [Ne.symm e]
/-- The records from a state to another one. -/
def recordsS (a b : St) : List Rec :=
  (if a.view ≠ b.view then [⟨1, b.view, a.normal, []⟩] else []) ++
  (if common a.log b.log < a.log.length then [⟨3, common a.log b.log, 0, []⟩] else []) ++
  (b.log.drop (common a.log b.log)).map (fun e => ⟨2, 0, 0, [e]⟩) ++
  (if a.normal ≠ b.normal then [⟨1, b.view, b.normal, []⟩] else []) ++
  (if a.commit ≠ b.commit then [⟨4, b.commit, 0, []⟩] else []) ++
  (if a.active ≠ b.active then [⟨5, b.active, 0, []⟩] else [])
theorem recordsS_right {a b : St} (ha : stR a = true) (hb : stR b = true) : ∀ r ∈ recordsS a b, recR r = true := by
  rw [stR_iff] at ha hb
  have hc := common_le a.log b.log
  intro r hr
  unfold recordsS at hr
  rw [recR_iff]
  simp only [List.mem_append] at hr
  rcases hr with ((((hr | hr) | hr) | hr) | hr) | hr
  · split at hr
    · rw [List.mem_singleton.1 hr]; exact ⟨⟨by simp, ⟨by simp; omega, by simp; omega⟩, by simp; omega, by simp; omega⟩, by simp⟩
    · cases hr
  · split at hr
    · rw [List.mem_singleton.1 hr]; exact ⟨⟨by simp, ⟨by simp, by simp; omega⟩, by simp, by simp⟩, by simp⟩
    · cases hr
  · obtain ⟨e, he, rfl⟩ := List.mem_map.1 hr
    exact ⟨⟨by simp, by simp, by simp⟩, by simp; exact hb.2 e (List.mem_of_mem_drop he)⟩
  · split at hr
    · rw [List.mem_singleton.1 hr]; exact ⟨⟨by simp, ⟨by simp; omega, by simp; omega⟩, by simp; omega, by simp; omega⟩, by simp⟩
    · cases hr
  · split at hr
    · rw [List.mem_singleton.1 hr]; exact ⟨⟨by simp, ⟨by simp; omega, by simp; omega⟩, by simp, by simp⟩, by simp⟩
    · cases hr
  · split at hr
    · rw [List.mem_singleton.1 hr]; exact ⟨⟨by simp, ⟨by simp; omega, by simp; omega⟩, by simp, by simp⟩, by simp⟩
    · cases hr
/-- Adding entries one by one. -/
theorem adds_all : ∀ (l : List Entry) (s : St), (s.log.length : Int) + l.length ≤ 64 → applyAll s (l.map (fun e => ⟨2, 0, 0, [e]⟩)) = some { s with log := s.log ++ l }
  | [], s, _ => by simp [applyAll]
  | e :: l, s, h => by
    simp only [List.length_cons] at h
    rw [List.map_cons]
    have h1 : applyS s ⟨2, 0, 0, [e]⟩ = some { s with log := s.log ++ [e] } := by rw [applyS2, if_pos (by omega)]
    unfold applyAll
    rw [h1]
    simp only
    rw [adds_all l _ (by simp only [List.length_append, List.length_singleton]; omega)]
    simp
/-- What the records lead to, if they can be applied, is the other state; they can be just if no view, no Commit goes down, and what is committed stays. -/
theorem records_lead {a b : St} (ha : stR a = true) (hb : stR b = true) :
    applyAll a (recordsS a b) = if a.view ≤ b.view ∧ a.normal ≤ b.normal ∧ (common a.log b.log < a.log.length → a.commit ≤ (common a.log b.log : Int)) ∧ a.commit ≤ b.commit then some b else none := by
  rw [stR_iff] at ha hb
  obtain ⟨⟨a1, a2, a3, a4, a5, a6, a7, a8, a9⟩, _⟩ := ha
  obtain ⟨⟨b1, b2, b3, b4, b5, b6, b7, b8, b9⟩, _⟩ := hb
  have hc := common_le a.log b.log
  have ht := common_take a.log b.log
  obtain ⟨v, n, c, t, l⟩ := a
  obtain ⟨v', n', c', t', l'⟩ := b
  simp only at *
  generalize hk : common l l' = k at *
  have h1 : applyAll ⟨v, n, c, t, l⟩ (if v ≠ v' then [⟨1, v', n, []⟩] else []) = if v ≤ v' then some ⟨v', n, c, t, l⟩ else none := by
    by_cases e : v = v'
    · subst e; simp [applyAll]
    · rw [if_pos e]
      rw [applyAll_one, applyS1]
      by_cases h : v ≤ v'
      · rw [if_pos h, if_pos ⟨h, Int.le_refl _, by (try simp only); omega⟩]
      · rw [if_neg h, if_neg (fun q => h q.1)]
  have h2 : applyAll ⟨v', n, c, t, l⟩ (if k < l.length then [⟨3, (k : Int), 0, []⟩] else []) = if (k < l.length → c ≤ (k : Int)) then some ⟨v', n, c, t, l.take k⟩ else none := by
    by_cases e : k < l.length
    · rw [if_pos e]
      rw [applyAll_one, applyS3]
      by_cases h : c ≤ (k : Int)
      · rw [if_pos (fun _ => h), if_pos ⟨h, by (try simp only); omega⟩]; rfl
      · rw [if_neg (fun q => h q.1), if_neg (fun q => h (q e))]
    · rw [if_neg e, if_pos (fun q => absurd q e), List.take_of_length_le (by omega)]; rfl
  have h3 : applyAll ⟨v', n, c, t, l.take k⟩ ((l'.drop k).map (fun e => ⟨2, 0, 0, [e]⟩)) = some ⟨v', n, c, t, l'⟩ := by
    rw [adds_all _ _ (by simp only [List.length_take, List.length_drop]; omega)]
    simp only
    rw [ht, List.take_append_drop]
  have h4 : applyAll ⟨v', n, c, t, l'⟩ (if n ≠ n' then [⟨1, v', n', []⟩] else []) = if n ≤ n' then some ⟨v', n', c, t, l'⟩ else none := by
    by_cases e : n = n'
    · subst e; simp [applyAll]
    · rw [if_pos e]
      rw [applyAll_one, applyS1]
      by_cases h : n ≤ n'
      · rw [if_pos h, if_pos ⟨Int.le_refl _, h, by (try simp only); omega⟩]
      · rw [if_neg h, if_neg (fun q => h q.2.1)]
  have h5 : applyAll ⟨v', n', c, t, l'⟩ (if c ≠ c' then [⟨4, c', 0, []⟩] else []) = if c ≤ c' then some ⟨v', n', c', t, l'⟩ else none := by
    by_cases e : c = c'
    · subst e; simp [applyAll]
    · rw [if_pos e]
      rw [applyAll_one, applyS4]
      by_cases h : c ≤ c'
      · rw [if_pos h, if_pos ⟨h, by (try simp only); omega⟩]
      · rw [if_neg h, if_neg (fun q => h q.1)]
  have h6 : applyAll ⟨v', n', c', t, l'⟩ (if t ≠ t' then [⟨5, t', 0, []⟩] else []) = some ⟨v', n', c', t', l'⟩ := by
    by_cases e : t = t'
    · subst e; simp [applyAll]
    · rw [if_pos e]
      rw [applyAll_one, applyS5, if_pos b9]
  unfold recordsS
  simp only [hk]
  rw [applyAll_append, applyAll_append, applyAll_append, applyAll_append, applyAll_append, h1]
  have nn : ∀ f : St → Option St, (none : Option St).bind f = none := fun _ => rfl
  by_cases q1 : v ≤ v'
  case neg => simp only [if_neg q1, nn]; rw [if_neg (fun q => q1 q.1)]
  rw [if_pos q1, Option.bind_some, h2]
  by_cases q2 : (k < l.length → c ≤ (k : Int))
  case neg => simp only [if_neg q2, nn]; rw [if_neg (fun q => q2 q.2.2.1)]
  rw [if_pos q2, Option.bind_some, h3, Option.bind_some, h4]
  by_cases q3 : n ≤ n'
  case neg => simp only [if_neg q3, nn]; rw [if_neg (fun q => q3 q.2.1)]
  rw [if_pos q3, Option.bind_some, h5]
  by_cases q4 : c ≤ c'
  case neg => simp only [if_neg q4, nn]; rw [if_neg (fun q => q4 q.2.2.2)]
  rw [if_pos q4, Option.bind_some, h6, if_pos ⟨q1, q3, q2, q4⟩]
/-- What the records between two states are, and whether they can be applied: an error's number. -/
def betweenS (a b : St) : List Rec × Int := if stR a && stR b then (match applyAll a (recordsS a b) with | some _ => (recordsS a b, 0) | none => ([], 54)) else ([], 10)

/-- What bytes tell, from a state on: the state, and how many bytes. -/
def rd13 (s : St) (b : List UInt8) : St × Nat :=
  match h : FrameP.read b with
  | (0, l) => match (parseRec l).bind (applyS s) with
    | some t => let q := rd13 t (b.drop (10 + l.length)); (q.1, 10 + l.length + q.2)
    | none => (s, 0)
  | _ => (s, 0)
termination_by b.length
decreasing_by
  have := (FrameP.read_len h).1
  simp only [List.length_drop]
  omega
theorem rd13_err {s : St} {b l : List UInt8} {e : Nat} (h : FrameP.read b = (e, l)) (he : e ≠ 0) : rd13 s b = (s, 0) := by
  rw [rd13]
  split
  · rename_i l' h'
    rw [h] at h'
    simp only [Prod.mk.injEq] at h'
    exact absurd h'.1 he
  · rfl
theorem rd13_no {s : St} {b l : List UInt8} (h : FrameP.read b = (0, l)) (hp : (parseRec l).bind (applyS s) = none) : rd13 s b = (s, 0) := by
  rw [rd13]
  split
  · rename_i l' h'
    rw [h] at h'
    simp only [Prod.mk.injEq, true_and] at h'
    subst h'
    rw [hp]
  · rfl
theorem rd13_ok {s t : St} {b l : List UInt8} (h : FrameP.read b = (0, l)) (hp : (parseRec l).bind (applyS s) = some t) : rd13 s b = ((rd13 t (b.drop (10 + l.length))).1, 10 + l.length + (rd13 t (b.drop (10 + l.length))).2) := by
  rw [rd13]
  split
  · rename_i l' h'
    rw [h] at h'
    simp only [Prod.mk.injEq, true_and] at h'
    subst h'
    rw [hp]
  · rename_i hn
    exact absurd h (hn l)
theorem rd13_le (b : List UInt8) : ∀ s : St, (rd13 s b).2 ≤ b.length := by
  induction hn : b.length using Nat.strongRecOn generalizing b with
  | _ n ih =>
    intro s
    rcases hr : FrameP.read b with ⟨e, l⟩
    by_cases he : e = 0
    · subst he
      have := FrameP.read_len hr
      cases hp : (parseRec l).bind (applyS s) with
      | none => rw [rd13_no hr hp]; exact Nat.zero_le _
      | some t =>
        rw [rd13_ok hr hp]
        have h2 := ih (b.drop (10 + l.length)).length (by rw [List.length_drop]; omega) _ rfl t
        rw [List.length_drop] at h2
        show 10 + l.length + _ ≤ n
        omega
    · rw [rd13_err hr he]; exact Nat.zero_le _
theorem rd13_right (b : List UInt8) : ∀ s : St, stR s = true → stR (rd13 s b).1 = true := by
  induction hn : b.length using Nat.strongRecOn generalizing b with
  | _ n ih =>
    intro s hs
    rcases hr : FrameP.read b with ⟨e, l⟩
    by_cases he : e = 0
    · subst he
      have := FrameP.read_len hr
      cases hp : (parseRec l).bind (applyS s) with
      | none => rw [rd13_no hr hp]; exact hs
      | some t =>
        rw [rd13_ok hr hp]
        obtain ⟨r, h1, h2⟩ := Option.bind_eq_some_iff.1 hp
        exact ih (b.drop (10 + l.length)).length (by rw [List.length_drop]; omega) _ rfl t (applyS_right hs (parseRec_back h1).2.1 h2)
    · rw [rd13_err hr he]; exact hs
/-- The bytes of records, in frames. -/
def framesB (l : List Rec) : List UInt8 := l.flatMap (fun r => FrameP.frame (recB r))
theorem framesB_append (l m : List Rec) : framesB (l ++ m) = framesB l ++ framesB m := by simp [framesB]
/-- Frames of right records that can be applied are read as them, whatever stands behind them. -/
theorem rd13_frames : ∀ (l : List Rec) (s t : St) (b : List UInt8), (∀ r ∈ l, recR r = true ∧ (recB r).length ≤ 65536) → applyAll s l = some t → rd13 s (framesB l ++ b) = ((rd13 t b).1, (framesB l).length + (rd13 t b).2)
  | [], s, t, b, _, h => by
    simp only [applyAll, Option.some.injEq] at h
    subst h
    simp [framesB]
  | r :: l, s, t, b, hr, h => by
    obtain ⟨h1, h2⟩ := hr r List.mem_cons_self
    unfold applyAll at h
    split at h
    · cases h
    · rename_i u hu
      have e : framesB (r :: l) ++ b = FrameP.frame (recB r) ++ (framesB l ++ b) := by simp [framesB]
      have hp : (parseRec (recB r)).bind (applyS s) = some u := by rw [parseRec_bytes h1 h2]; exact hu
      rw [e, rd13_ok (FrameP.read_frame (recB r) _ h2) hp]
      have e2 : (FrameP.frame (recB r) ++ (framesB l ++ b)).drop (10 + (recB r).length) = framesB l ++ b := by rw [← FrameP.frame_length, List.drop_left]
      rw [e2, rd13_frames l u t b (fun x hx => hr x (List.mem_cons_of_mem _ hx)) h]
      simp [framesB, FrameP.frame_length]
      omega
theorem rd13_nil (s : St) : rd13 s [] = (s, 0) := rd13_err FrameP.read_nil (by decide)
end Go.Proofs.Ytfpjickdkkhndaa.Pa


/- append onto nothing: a row of one's own with the same things. And states in memory. -/

namespace Go.Proofs.Ytfpjickdkkhndaa.Pa

set_option linter.unusedVariables false

set_option linter.unusedSimpArgs false

open Go.RowKit Go.Proofs.Ytfpjickdkkhndaa.C

attribute [local go_sem] max2_int min2_int max_two min_two

/-- What an element's cells say rests on no memory. -/
def Flat {α : Type} (d : Ty α) : Prop := ∀ {w w' : World} {S S' : Nat → Prop} {x : α} {cs : List Value}, d.K w S x cs → d.K w' S' x cs
theorem flat_int (k : IntKind) : Flat (Ty.int k) := fun h => h
theorem flat_rule : Flat ruleK := fun h => h
theorem Flat.row {α : Type} {d : Ty α} (hf : Flat d) {w w' : World} {S S' : Nat → Prop} {xs : List α} {cs : List Value} (h : Ty.Row d w S xs cs) : Ty.Row d w' S' xs cs := ⟨h.1, fun i x hx => hf (h.2 i x hx)⟩
section

variable {P : Program} {ops : Array Oper} {rest : List Oper} {o : Oper} {a : Act} {Q : Exit → Act → World → Prop}

/-- append(nil, xs...) -/
theorem app_new {α : Type} {d : Ty α} (w : World) (hgd : o.guard = none) (s x : Operand) (t e : TypeId) (z : Value) (bytes : Nat)
    (ho : o.op = .call { callee := .builtin .append, args := #[s, x], argTypes := #[t, t] }) (ht : P.underlying t = some (.slice e))
    (hinfo : (P.info? e).map (fun i => (i.zero, i.size, i.bytes)) = some (some z, d.sz, bytes)) (hzs : z.cells.size = d.sz) (hsz : 0 < d.sz) (hb0 : 0 < bytes)
    (hs : a.eval s = .slice none 0 0) (A : Option Addr) (m c : Nat) {ys : List α} {R : Nat → Prop} (hx : a.eval x = .slice A m c) (hat : Ty.At d w R A m c ys) (hf : Flat d) (hbytes : m * bytes ≤ 140737488355328)
    (h : ∀ A' c' w', Ty.At d w' (fun k => w.heap.size ≤ k ∧ k < w'.heap.size) A' m c' ys → Chg (fun _ => False) w w' → wpList P ops Q rest (a.put o.dst (.slice A' m c')) w') :
    wpList P ops Q (o :: rest) a w := by
  obtain ⟨h1, h2, h3, h4, news, h5, h6⟩ := hat
  refine vec_list (d := d) w hgd s x t e z bytes ho ht hinfo hzs hsz hb0 (S := fun _ => False) (D := fun _ => False) (.slice none 0 0) hs (Vec.nil d e w _ _) A m c hx h4 h2 h1 h5 (hf.row h6) (by rw [List.length_nil, Nat.zero_add]; exact hbytes) ?_
  simp only [List.length_nil, Nat.zero_add, List.nil_append]
  intro A' c' w' g1 g2
  have q := g1.at.bound
  exact h A' c' w' (q.mono (fun k hk => ⟨by rcases hk.1 with (k1 | k1) | k1; exact k1.elim; exact k1; exact k1.elim, hk.2⟩)) (g2.mono (fun k hk _ => by simp [Value.ownBlock] at hk))
end

/-- append(xs[:len:len], ys...): a new row. -/
theorem join_run {α : Type} {d : Ty α} {P : Program} (w : World) (t ty e : TypeId) (z : Value) (bytes : Nat) (ht : P.underlying t = some (.slice e))
    (hinfo : (P.info? e).map (fun i => (i.zero, i.size, i.bytes)) = some (some z, d.sz, bytes)) (hzs : z.cells.size = d.sz) (hsz : 0 < d.sz) (hb0 : 0 < bytes)
    {R R2 : Nat → Prop} {A B : Option Addr} {n m c : Nat} {xs ys : List α} (h : Ty.At d w R A n n xs) (h2 : Ty.At d w R2 B m c ys) (hm : 0 < m) (hbytes : (n + m) * bytes ≤ 140737488355328) :
    ∃ A' c' w', (Builtin.append_ #[t, t] ty #[.slice A n n, .slice B m c]).run P w = .ok (.slice A' (n + m) c') w' ∧ Ty.At d w' (fun k => (R k ∨ R2 k ∨ w.heap.size ≤ k) ∧ k < w'.heap.size) A' (n + m) c' (xs ++ ys) ∧ Chg (fun _ => False) w w' := by
  obtain ⟨i, hi, hz0, hz1, hz2⟩ := info_parts hinfo
  have hnm : n + m ≤ 140737488355328 := Nat.le_trans (Nat.le_mul_of_pos_right _ hb0) hbytes
  cases A with
  | none =>
    have hn : n = 0 := h.2.2.2.1 rfl
    subst hn
    have hx : xs = [] := List.eq_nil_of_length_eq_zero h.1.symm
    subst hx
    obtain ⟨q1, q2, q3, q4, news, q5, q6⟩ := h2.bound
    obtain ⟨A', c', w', hr, g1, g2⟩ := (Vec.nil d e w (fun _ => False) (fun k => R2 k ∧ k < w.heap.size)).app_run (P := P) w t ty e z bytes ht hinfo hzs hsz hb0 q4 q2 q1 q5 (q6.mono (fun k hk => ⟨hk, by simp [Value.ownBlock], hk.2⟩)) (by simpa using hbytes)
    simp only [List.length_nil, Nat.zero_add, List.nil_append] at hr g1 ⊢
    exact ⟨A', c', w', hr, g1.at.bound.mono (fun k hk => ⟨by rcases hk.1 with (k1 | k1) | k1; exact k1.elim; exact .inr (.inr k1); exact .inr (.inl k1.1), hk.2⟩), g2.mono (fun k hk _ => by simp [Value.ownBlock] at hk)⟩
  | some a =>
    obtain ⟨q1, q2, q3, q4, news, q5, q6⟩ := h2.bound
    obtain ⟨p1, p2, p3, p4, olds, p5, p6⟩ := h.bound
    have hB : ∃ b, B = some b := by
      cases B with
      | none => have := q4 rfl; omega
      | some b => exact ⟨b, rfl⟩
    obtain ⟨b, rfl⟩ := hB
    have seen : ∀ {a : Addr} {S : Nat → Prop} {cs : List Value}, Sees w S (some a) cs → ∀ j u, cs[j]? = some u → w.cell? (a.add j) = some u := fun hs => by
      rcases hs with h | ⟨a', ha, _, hx⟩
      · intro j u hj; rw [h] at hj; simp at hj
      · cases ha; exact hx
    obtain ⟨v', w', hr, g1, g2⟩ := run_append_arg_grows (P := P) w t ty e i z d.sz bytes ht hi hz0 hz1 hz2 hzs hsz a n n olds (by rw [p6.1, p1]) (seen p5) b m c news (by rw [q6.1, q1]) (seen q5) (by omega) (by simp only [maxLen]; omega) hbytes
    have hc : Chg (fun _ => False) w w' := ⟨g2.os, g2.tape, g2.output, g2.size, fun k hk _ => g2.block k hk (by simp)⟩
    obtain ⟨A', c', rfl, r1, r2, r3, r4⟩ := own_sees g1
    refine ⟨A', c', w', hr, ⟨by rw [List.length_append]; omega, r1, r2, r3, olds ++ news, ?_, ?_⟩, hc⟩
    · refine (r4.bound).mono (fun k hk => ⟨.inr (.inr ?_), hk.2⟩)
      obtain ⟨_, hh⟩ := g1
      rcases hh with hh | ⟨g, cap, cur, hv, hg, _⟩
      · rw [hh.1] at hk; simp [Value.ownBlock] at hk
      · rw [hv] at hk
        have := hk.1
        simp [Value.ownBlock] at this
        omega
    · refine Ty.Row.append ((p6.chg hc (fun _ _ h => h)).mono (fun k hk => ⟨.inl hk.1, Nat.lt_of_lt_of_le hk.2 hc.size⟩)) ((q6.chg hc (fun _ _ h => h)).mono (fun k hk => ⟨.inr (.inl hk.1), Nat.lt_of_lt_of_le hk.2 hc.size⟩))
section

variable {P : Program} {ops : Array Oper} {rest : List Oper} {o : Oper} {a : Act} {Q : Exit → Act → World → Prop}
theorem join_step {E : Prop} {α : Type} {d : Ty α} (w : World) {K : Act → World → Prop} (hgd : o.guard = none) (s x : Operand) (t e : TypeId) (z : Value) (bytes : Nat)
    (ho : o.op = .call { callee := .builtin .append, args := #[s, x], argTypes := #[t, t] }) (ht : P.underlying t = some (.slice e))
    (hinfo : (P.info? e).map (fun i => (i.zero, i.size, i.bytes)) = some (some z, d.sz, bytes)) (hzs : z.cells.size = d.sz) (hsz : 0 < d.sz) (hb0 : 0 < bytes)
    {R R2 : Nat → Prop} {A B : Option Addr} {n m c : Nat} {xs ys : List α} (hs : a.eval s = .slice A n n) (hx : a.eval x = .slice B m c) (h1 : Ty.At d w R A n n xs) (h2 : Ty.At d w R2 B m c ys) (hm : 0 < m) (hbytes : (n + m) * bytes ≤ 140737488355328)
    (h : ∀ A' c' w', Ty.At d w' (fun k => (R k ∨ R2 k ∨ w.heap.size ≤ k) ∧ k < w'.heap.size) A' (n + m) c' (xs ++ ys) → Chg (fun _ => False) w w' → K (a.put o.dst (.slice A' (n + m) c')) w') :
    if Region.wanted o (yielded ops a.tmps) = true then Oper.wp P o a w K Q else E := by
  have hw : Region.wanted o (yielded ops a.tmps) = true := by simp [Region.wanted, hgd]
  rw [if_pos hw]
  obtain ⟨A', c', w', hr, g1, g2⟩ := join_run (P := P) w t o.type e z bytes ht hinfo hzs hsz hb0 h1 h2 hm hbytes
  unfold Oper.wp execOp
  simp only [ho, resolve, invoke, builtin, Sem.run_bind, Sem.run_pure, Result.andThen_ok, List.map_toArray, List.map_cons, List.map_nil, hs, hx, hr]
  exact h A' c' w' g1 g2
end

/-- A state's cells between others. -/
def stRow (pre post : List Value) (s : St) (A : Option Addr) (n c : Nat) : Array Value := (pre ++ (.int .i64 s.view :: .int .i64 s.normal :: .int .i64 s.commit :: .int .i64 s.active :: .slice A n c :: post)).toArray
theorem row_get (pre l : List Value) (i : Nat) : (pre ++ l).toArray[pre.length + i]? = l[i]? := by
  rw [List.getElem?_toArray, List.getElem?_append_right (Nat.le_add_right _ _), Nat.add_sub_cancel_left]
theorem row_set (pre l : List Value) (i : Nat) (u : Value) : (pre ++ l).toArray.setIfInBounds (pre.length + i) u = (pre ++ l.set i u).toArray := by simp [List.set_append]
theorem st_set0 (pre post : List Value) (s : St) (A : Option Addr) (n c : Nat) (v : Int) : (stRow pre post s A n c).setIfInBounds (pre.length) (.int .i64 v) = stRow pre post { s with view := v } A n c := row_set pre _ 0 _
theorem st_set1 (pre post : List Value) (s : St) (A : Option Addr) (n c : Nat) (v : Int) : (stRow pre post s A n c).setIfInBounds (pre.length + 1) (.int .i64 v) = stRow pre post { s with normal := v } A n c := row_set pre _ 1 _
theorem st_set2 (pre post : List Value) (s : St) (A : Option Addr) (n c : Nat) (v : Int) : (stRow pre post s A n c).setIfInBounds (pre.length + 2) (.int .i64 v) = stRow pre post { s with commit := v } A n c := row_set pre _ 2 _
theorem st_set3 (pre post : List Value) (s : St) (A : Option Addr) (n c : Nat) (v : Int) : (stRow pre post s A n c).setIfInBounds (pre.length + 3) (.int .i64 v) = stRow pre post { s with active := v } A n c := row_set pre _ 3 _
theorem st_set4 (pre post : List Value) (s : St) (A A' : Option Addr) (n c n' c' : Nat) (l : List Entry) : (stRow pre post s A n c).setIfInBounds (pre.length + 4) (.slice A' n' c') = stRow pre post { s with log := l } A' n' c' := row_set pre _ 4 _
/-- A value of some cells in a new block, as a row of one element. -/
theorem lit_at {α : Type} {d : Ty α} {W : World} {t : TypeId} {R : Nat → Prop} {x : α} {cs : Array Value} (h : d.K W R x cs.toList) : Ty.At d (W.alloc (.cells cs t)) (fun k => R k ∨ k = W.heap.size) (some ⟨W.heap.size, 0, none⟩) 1 1 [x] := by
  refine ⟨rfl, Nat.le_refl _, by simp [maxLen], by simp, cs.toList, .inr ⟨_, rfl, .inr rfl, fun j u hj => ?_⟩, Ty.Row.one_ ?_⟩
  · rw [add_at, Nat.zero_add, cellAt (blk_new W _)]
    simpa using hj
  · exact d.mono (d.chg h ((Chg.refl (fun _ => False) W).alloc _) (fun _ _ h => h)) (fun k hk => .inl hk)
theorem cell_is {w : World} {g : Nat} {t : TypeId} {cs : Array Value} (h : w.heap[g]? = some (.cells cs t (0, 0))) (i : Nat) (v : Value) (hv : cs[i]? = some v) : w.cell? ⟨g, i, none⟩ = some v := (cellAt h i).trans hv
theorem size_of {S : Nat → Prop} {a W : World} (h : Chg S a W) (o : Obj) : a.heap.size ≤ W.heap.size ∧ (W.alloc o).heap.size = W.heap.size + 1 := ⟨h.size, by simp⟩
theorem alloc_of {S : Nat → Prop} {a W : World} (h : Chg S a W) (o : Obj) : Chg (fun _ => False) W (W.alloc o) := (Chg.refl _ W).alloc o
theorem new_of {S : Nat → Prop} {a W : World} (h : Chg S a W) (o : Obj) : (W.alloc o).heap[W.heap.size]? = some o := blk_new W o
def stK : Ty St := Ty.iso (Ty.pair (Ty.int .i64) (Ty.pair (Ty.int .i64) (Ty.pair (Ty.int .i64) (Ty.pair (Ty.int .i64) (Ty.slice entryK))))) (fun s => (s.view, s.normal, s.commit, s.active, s.log))
/-- A state's numbers fit. -/
def StWf (s : St) : Prop := ((Lit.int .i64 s.view).wf = true ∧ (Lit.int .i64 s.normal).wf = true) ∧ (Lit.int .i64 s.commit).wf = true ∧ (Lit.int .i64 s.active).wf = true
theorem st_open {w : World} {S : Nat → Prop} {s : St} {cs : Array Value} (h : stK.K w S s cs.toList) : ∃ A n c, cs = #[.int .i64 s.view, .int .i64 s.normal, .int .i64 s.commit, .int .i64 s.active, .slice A n c] ∧ Ty.At entryK w S A n c s.log ∧ StWf s := by
  obtain ⟨_, _, e1, ⟨rfl, w1⟩, _, _, rfl, ⟨rfl, w2⟩, _, _, rfl, ⟨rfl, w3⟩, _, _, rfl, ⟨rfl, w4⟩, A, n, c, rfl, h⟩ := h
  exact ⟨A, n, c, Array.ext' e1, h, ⟨w1, w2⟩, w3, w4⟩
theorem st_shut {w : World} {S : Nat → Prop} {s : St} {A : Option Addr} {n c : Nat} (h : Ty.At entryK w S A n c s.log) (hw : StWf s) : stK.K w S s [.int .i64 s.view, .int .i64 s.normal, .int .i64 s.commit, .int .i64 s.active, .slice A n c] :=
  ⟨[_], _, rfl, ⟨rfl, hw.1.1⟩, [_], _, rfl, ⟨rfl, hw.1.2⟩, [_], _, rfl, ⟨rfl, hw.2.1⟩, [_], _, rfl, ⟨rfl, hw.2.2⟩, A, n, c, rfl, h⟩
theorem stR_wf {s : St} (h : stR s = true) : StWf s := by
  have h1 := (stR_iff.1 h).1
  refine ⟨⟨?_, ?_⟩, ?_, ?_⟩ <;> (simp [Lit.wf, IntKind.min, IntKind.max, IntKind.signed, IntKind.bits]; omega)
end Go.Proofs.Ytfpjickdkkhndaa.Pa


/- The contracts of Right at states, the program's and the document's. -/

namespace Go.Proofs.Ytfpjickdkkhndaa.Pa

set_option linter.unusedVariables false

set_option linter.unusedSimpArgs false

open Go.RowKit Go.Proofs.Ytfpjickdkkhndaa.C

attribute [local go_sem] max2_int min2_int max_two min_two
theorem lgq_clo {R : Nat → Prop} {r : Entry} {E1 : Option Addr} {m1 d1 : Nat} {E2 : Option Addr} {m2 d2 : Nat} (w : World) (he : EntryAt w R r E1 m1 d1 E2 m2 d2) : Calls Try.prog 46 #[.agg (entryCells r E1 m1 d1 E2 m2 d2).toArray] w fun e w' => e = .returned (.bool (!(entryR r))) ∧ Chg (fun _ => False) w w' := by
  show Calls Try.prog _ #[.agg #[.int .i64 r.view, .int .i64 r.client, .int .i64 r.request, .int .i64 r.dflt, .int .i64 r.closed, .int .i64 r.fuel, .int .i64 r.stack, .slice E1 m1 d1, .slice E2 m2 d2]] w _
  have HE := hid he
  clear he
  go_enter Try.func46, Try.ntmps46
  go_wp2_with fail
  refine (entryright_any (e := r) (HE.out.chg ((Chg.refl (fun _ => False) w).alloc _) (fun _ _ h => h))).mono ?_
  rintro e w1 ⟨rfl, h1⟩
  have H1 := hid (((Chg.refl (fun _ => False) w).alloc _).trans h1 (fun _ h _ => h))
  clear h1
  go_wp2_with fail
  go_ret
  exact ⟨rfl, H1.out⟩
set_option maxHeartbeats 4000000 in
set_option maxRecDepth 100000 in
theorem lgq_idx {R : Nat → Prop} {A : Option Addr} {n c : Nat} {xs : List (Entry)} {w : World} (hl : Ty.At entryK w R A n c xs) :
    Calls Try.prog 68 #[.slice A n c, .func (.func 46) #[] #[]] w (EntqIdx xs w) := by
  have HL := hid hl
  have hn2 : (n : Int) ≤ 9223372036854775807 := by have q1 := hl.2.1; have q2 := hl.2.2.1; simp [maxLen] at q2; omega
  have eg : ∀ args w, (callFunc 46 args).run Try.prog w = .ok (.enter 46 args) w := Go.Proofs.enters_of Try.func46 (by kernel_rfl) rfl
  clear hl
  go_enter Try.func68, Try.ntmps68
  go_wp2_with fail
  go_loopw [8] (fun i wr => ∃ k : Nat, k ≤ n ∧ i = .int .i64 k ∧ (xs.take k).all (fun r => entryR r) = true ∧ Chg (fun _ => False) w wr) (fun i _ => n - (intOf i).toNat)
  case atStart => exact ⟨0, Nat.zero_le _, rfl, rfl, Chg.refl _ _⟩
  case round =>
    obtain ⟨k, hk, rfl, hp, hC⟩ := hrel
    have HP := hid hp
    have HC := hid hC
    clear hp
    by_cases hlt : k < n
    · obtain ⟨r, hr⟩ : ∃ r, xs[k]? = some r := ⟨_, List.getElem?_eq_getElem (by have := HL.out.1; omega)⟩
      obtain ⟨a, cs, ha, haR, hK, hcs⟩ := HL.out.get (by decide) hr
      obtain ⟨E1, m1, d1, E2, m2, d2, rfl, hrw⟩ := entry_open (id hK)
      have HRW := hid hrw
      clear hrw
      subst ha
      have hcs2 : ∀ j u, (entryCells r E1 m1 d1 E2 m2 d2)[j]? = some u → wr.cell? (a.add (k * 9 + j)) = some u := fun j u hj => hC.cell (hcs j u hj) (fun h => h)
      have x0 := elem_cell0 hcs2 _ rfl
      have x1 := elem_cell hcs2 0 _ rfl
      have x2 := elem_cell hcs2 1 _ rfl
      have x3 := elem_cell hcs2 2 _ rfl
      have x4 := elem_cell hcs2 3 _ rfl
      have x5 := elem_cell hcs2 4 _ rfl
      have x6 := elem_cell hcs2 5 _ rfl
      have x7 := elem_cell hcs2 6 _ rfl
      have x8 := elem_cell hcs2 7 _ rfl
      have HN := hid (entq_allk hr)
      have HX := hid (entq_alln (xs := xs) (k := k + 1))
      clear hcs hK hcs2 hr haR hC
      have hlt2 : (k : Int) < (n : Int) := by omega
      go_wp2_with fail
      refine (lgq_clo _ (HRW.out.chg HC.out (fun _ _ h => h))).mono ?_
      rintro e w2 ⟨rfl, h2⟩
      have HC2 := hid (HC.out.trans h2 (fun _ h _ => h))
      clear h2 x0 x1 x2 x3 x4 x5 x6 x7 x8
      cases hrr : entryR r
      · have HF := hid (HX.out (by rw [HN.out, hrr, Bool.and_false]))
        clear hrr
        go_wp2_with fail
        go_ret
        exact ⟨⟨(k : Int), rfl, by rw [HF.out]; simp⟩, HC2.out⟩
      · have HF := hid (show (xs.take (k + 1)).all (fun r => entryR r) = true by rw [HN.out, HP.out, hrr]; rfl)
        clear hrr
        go_wp2_with fail
        go_roundw
        case measure => simp [intOf]; omega
        case rel => first | exact ⟨k + 1, hlt, by go_num, HF.out, HC2.out⟩ | ((repeat apply Exists.intro); exact ⟨⟨k + 1, hlt, by go_num, HF.out, HC2.out⟩, rfl⟩)
    · clear eg hC
      have hkn : ¬ (k : Int) < (n : Int) := by omega
      go_wp2_with fail
      go_ret
      have hp := HP.out
      rw [List.take_of_length_le (by have := HL.out.1; omega)] at hp
      exact ⟨⟨-1, rfl, by rw [hp]; rfl⟩, HC.out⟩
set_option maxHeartbeats 4000000 in
set_option maxRecDepth 100000 in
theorem lgq_contains {R : Nat → Prop} {A : Option Addr} {n c : Nat} {xs : List (Entry)} {w : World} (hl : Ty.At entryK w R A n c xs) :
    Calls Try.prog 45 #[.slice A n c, .func (.func 46) #[] #[]] w fun e w' => e = .returned (.bool (!(xs.all (fun r => entryR r)))) ∧ Chg (fun _ => False) w w' := by
  have HL := hid hl
  clear hl
  go_enter Try.func45, Try.ntmps45
  go_wp2_with fail
  refine (lgq_idx HL.out).mono ?_
  rintro e w1 ⟨⟨i, rfl, hi⟩, hc⟩
  have HI := hid hi
  have HC := hid hc
  clear hi hc
  go_wp2_with fail
  go_ret
  exact ⟨by rw [← HI.out]; rfl, HC.out⟩

set_option maxHeartbeats 4000000 in
set_option maxRecDepth 100000 in
theorem stright_any {R : Nat → Prop} {s : St} {A : Option Addr} {n c : Nat} {w : World} (hl : Ty.At entryK w R A n c s.log) :
    Calls Try.prog 25 #[.agg #[.int .i64 s.view, .int .i64 s.normal, .int .i64 s.commit, .int .i64 s.active, .slice A n c]] w fun e' w' => e' = .returned (.bool (stR s)) ∧ Chg (fun _ => False) w w' := by
  obtain ⟨w0, hw0⟩ : ∃ w0, w0 = w.alloc (.cells #[.int .i64 s.view, .int .i64 s.normal, .int .i64 s.commit, .int .i64 s.active, .slice A n c] 32) := ⟨_, rfl⟩
  have CB := hid (show Chg (fun _ => False) w w0 by rw [hw0]; exact (Chg.refl _ w).alloc _)
  have B1 := hid (show w0.heap[w.heap.size]? = some (.cells #[.int .i64 s.view, .int .i64 s.normal, .int .i64 s.commit, .int .i64 s.active, .slice A n c] 32 (0, 0)) by rw [hw0]; exact blk_new w _)
  have HQ := hid (hl.chg CB.out (fun _ _ h => h))
  have L1 := hid hl.1
  have hm1 : (n : Int) ≤ 9223372036854775807 := by have q1 := hl.2.1; have q2 := hl.2.2.1; simp [maxLen] at q2; omega
  clear hl
  by_cases k0 : 0 ≤ s.view
  case neg =>
    have G := hid (show stR s = false from Bool.eq_false_iff.2 (fun h => by have h1 := (stR_iff.1 h).1; have h2 := L1.out; omega))
    go_enter Try.func25, Try.ntmps25
    go_wp2_with fail
    rw [← hw0]
    go_ret
    exact ⟨by rw [G.out]; rfl, CB.out⟩
  by_cases k1 : s.view ≤ 1099511627776
  case neg =>
    have G := hid (show stR s = false from Bool.eq_false_iff.2 (fun h => by have h1 := (stR_iff.1 h).1; have h2 := L1.out; omega))
    go_enter Try.func25, Try.ntmps25
    go_wp2_with fail
    rw [← hw0]
    go_ret
    exact ⟨by rw [G.out]; rfl, CB.out⟩
  by_cases k2 : 0 ≤ s.normal
  case neg =>
    have G := hid (show stR s = false from Bool.eq_false_iff.2 (fun h => by have h1 := (stR_iff.1 h).1; have h2 := L1.out; omega))
    go_enter Try.func25, Try.ntmps25
    go_wp2_with fail
    rw [← hw0]
    go_ret
    exact ⟨by rw [G.out]; rfl, CB.out⟩
  by_cases k3 : s.normal ≤ s.view
  case neg =>
    have G := hid (show stR s = false from Bool.eq_false_iff.2 (fun h => by have h1 := (stR_iff.1 h).1; have h2 := L1.out; omega))
    go_enter Try.func25, Try.ntmps25
    go_wp2_with fail
    rw [← hw0]
    go_ret
    exact ⟨by rw [G.out]; rfl, CB.out⟩
  by_cases k4 : (n : Int) ≤ 64
  case neg =>
    have G := hid (show stR s = false from Bool.eq_false_iff.2 (fun h => by have h1 := (stR_iff.1 h).1; have h2 := L1.out; omega))
    go_enter Try.func25, Try.ntmps25
    go_wp2_with fail
    rw [← hw0]
    go_ret
    exact ⟨by rw [G.out]; rfl, CB.out⟩
  by_cases k5 : 0 ≤ s.commit
  case neg =>
    have G := hid (show stR s = false from Bool.eq_false_iff.2 (fun h => by have h1 := (stR_iff.1 h).1; have h2 := L1.out; omega))
    go_enter Try.func25, Try.ntmps25
    go_wp2_with fail
    rw [← hw0]
    go_ret
    exact ⟨by rw [G.out]; rfl, CB.out⟩
  by_cases k6 : s.commit ≤ (n : Int)
  case neg =>
    have G := hid (show stR s = false from Bool.eq_false_iff.2 (fun h => by have h1 := (stR_iff.1 h).1; have h2 := L1.out; omega))
    go_enter Try.func25, Try.ntmps25
    go_wp2_with fail
    rw [← hw0]
    go_ret
    exact ⟨by rw [G.out]; rfl, CB.out⟩
  by_cases k7 : 0 ≤ s.active
  case neg =>
    have G := hid (show stR s = false from Bool.eq_false_iff.2 (fun h => by have h1 := (stR_iff.1 h).1; have h2 := L1.out; omega))
    go_enter Try.func25, Try.ntmps25
    go_wp2_with fail
    rw [← hw0]
    go_ret
    exact ⟨by rw [G.out]; rfl, CB.out⟩
  by_cases k8 : s.active ≤ 64
  case neg =>
    have G := hid (show stR s = false from Bool.eq_false_iff.2 (fun h => by have h1 := (stR_iff.1 h).1; have h2 := L1.out; omega))
    go_enter Try.func25, Try.ntmps25
    go_wp2_with fail
    rw [← hw0]
    go_ret
    exact ⟨by rw [G.out]; rfl, CB.out⟩
  have G := hid (show stR s = s.log.all (fun e => entryR e) by unfold stR; rw [decide_eq_true (by have h2 := L1.out; omega)]; rfl)
  go_enter Try.func25, Try.ntmps25
  go_wp2_with fail
  rw [← hw0]
  clear hw0 k0 k1 k2 k3 k4 k5 k6 k7 k8
  have x0 : w0.cell? ⟨w.heap.size, 0, none⟩ = some (.int .i64 s.view) := (cellAt B1.out 0).trans rfl
  have x1 : w0.cell? ⟨w.heap.size, 1, none⟩ = some (.int .i64 s.normal) := (cellAt B1.out 1).trans rfl
  have x2 : w0.cell? ⟨w.heap.size, 2, none⟩ = some (.int .i64 s.commit) := (cellAt B1.out 2).trans rfl
  have x3 : w0.cell? ⟨w.heap.size, 3, none⟩ = some (.int .i64 s.active) := (cellAt B1.out 3).trans rfl
  have x4 : w0.cell? ⟨w.heap.size, 4, none⟩ = some (.slice A n c) := (cellAt B1.out 4).trans rfl
  refine (lgq_contains HQ.out).mono ?_
  rintro e' w2 ⟨rfl, h2⟩
  have H2 := hid (CB.out.trans h2 (fun _ h _ => h))
  clear h2
  go_wp2_with fail
  go_ret
  exact ⟨by rw [G.out]; simp, H2.out⟩
set_option maxHeartbeats 4000000 in
set_option maxRecDepth 100000 in
theorem refstright_any {R : Nat → Prop} {s : St} {A : Option Addr} {n c : Nat} {w : World} (hl : Ty.At entryK w R A n c s.log) :
    Calls Try.prog 26 #[.agg #[.int .i64 s.view, .int .i64 s.normal, .int .i64 s.commit, .int .i64 s.active, .slice A n c]] w fun e' w' => e' = .returned (.bool (stR s)) ∧ Chg (fun _ => False) w w' := by
  obtain ⟨w0, hw0⟩ : ∃ w0, w0 = w.alloc (.cells #[.int .i64 s.view, .int .i64 s.normal, .int .i64 s.commit, .int .i64 s.active, .slice A n c] 41) := ⟨_, rfl⟩
  have CB := hid (show Chg (fun _ => False) w w0 by rw [hw0]; exact (Chg.refl _ w).alloc _)
  have B1 := hid (show w0.heap[w.heap.size]? = some (.cells #[.int .i64 s.view, .int .i64 s.normal, .int .i64 s.commit, .int .i64 s.active, .slice A n c] 41 (0, 0)) by rw [hw0]; exact blk_new w _)
  have HQ := hid (hl.chg CB.out (fun _ _ h => h))
  have L1 := hid hl.1
  have hm1 : (n : Int) ≤ 9223372036854775807 := by have q1 := hl.2.1; have q2 := hl.2.2.1; simp [maxLen] at q2; omega
  clear hl
  by_cases k0 : s.view < 0
  case pos =>
    have G := hid (show stR s = false from Bool.eq_false_iff.2 (fun h => by have h1 := (stR_iff.1 h).1; have h2 := L1.out; omega))
    go_enter Try.func26, Try.ntmps26
    go_wp2_with fail
    rw [← hw0]
    go_ret
    exact ⟨by rw [G.out]; rfl, CB.out⟩
  by_cases k1 : 1099511627776 < s.view
  case pos =>
    have G := hid (show stR s = false from Bool.eq_false_iff.2 (fun h => by have h1 := (stR_iff.1 h).1; have h2 := L1.out; omega))
    go_enter Try.func26, Try.ntmps26
    go_wp2_with fail
    rw [← hw0]
    go_ret
    exact ⟨by rw [G.out]; rfl, CB.out⟩
  by_cases k2 : s.normal < 0
  case pos =>
    have G := hid (show stR s = false from Bool.eq_false_iff.2 (fun h => by have h1 := (stR_iff.1 h).1; have h2 := L1.out; omega))
    go_enter Try.func26, Try.ntmps26
    go_wp2_with fail
    rw [← hw0]
    go_ret
    exact ⟨by rw [G.out]; rfl, CB.out⟩
  by_cases k3 : s.view < s.normal
  case pos =>
    have G := hid (show stR s = false from Bool.eq_false_iff.2 (fun h => by have h1 := (stR_iff.1 h).1; have h2 := L1.out; omega))
    go_enter Try.func26, Try.ntmps26
    go_wp2_with fail
    rw [← hw0]
    go_ret
    exact ⟨by rw [G.out]; rfl, CB.out⟩
  by_cases k4 : 64 < (n : Int)
  case pos =>
    have G := hid (show stR s = false from Bool.eq_false_iff.2 (fun h => by have h1 := (stR_iff.1 h).1; have h2 := L1.out; omega))
    go_enter Try.func26, Try.ntmps26
    go_wp2_with fail
    rw [← hw0]
    go_ret
    exact ⟨by rw [G.out]; rfl, CB.out⟩
  by_cases k5 : s.commit < 0
  case pos =>
    have G := hid (show stR s = false from Bool.eq_false_iff.2 (fun h => by have h1 := (stR_iff.1 h).1; have h2 := L1.out; omega))
    go_enter Try.func26, Try.ntmps26
    go_wp2_with fail
    rw [← hw0]
    go_ret
    exact ⟨by rw [G.out]; rfl, CB.out⟩
  by_cases k6 : (n : Int) < s.commit
  case pos =>
    have G := hid (show stR s = false from Bool.eq_false_iff.2 (fun h => by have h1 := (stR_iff.1 h).1; have h2 := L1.out; omega))
    go_enter Try.func26, Try.ntmps26
    go_wp2_with fail
    rw [← hw0]
    go_ret
    exact ⟨by rw [G.out]; rfl, CB.out⟩
  by_cases k7 : s.active < 0
  case pos =>
    have G := hid (show stR s = false from Bool.eq_false_iff.2 (fun h => by have h1 := (stR_iff.1 h).1; have h2 := L1.out; omega))
    go_enter Try.func26, Try.ntmps26
    go_wp2_with fail
    rw [← hw0]
    go_ret
    exact ⟨by rw [G.out]; rfl, CB.out⟩
  by_cases k8 : 64 < s.active
  case pos =>
    have G := hid (show stR s = false from Bool.eq_false_iff.2 (fun h => by have h1 := (stR_iff.1 h).1; have h2 := L1.out; omega))
    go_enter Try.func26, Try.ntmps26
    go_wp2_with fail
    rw [← hw0]
    go_ret
    exact ⟨by rw [G.out]; rfl, CB.out⟩
  have G := hid (show stR s = s.log.all (fun e => entryR e) by unfold stR; rw [decide_eq_true (by have h2 := L1.out; omega)]; rfl)
  go_enter Try.func26, Try.ntmps26
  go_wp2_with fail
  rw [← hw0]
  clear hw0 k0 k1 k2 k3 k4 k5 k6 k7 k8
  have x0 : w0.cell? ⟨w.heap.size, 0, none⟩ = some (.int .i64 s.view) := (cellAt B1.out 0).trans rfl
  have x1 : w0.cell? ⟨w.heap.size, 1, none⟩ = some (.int .i64 s.normal) := (cellAt B1.out 1).trans rfl
  have x2 : w0.cell? ⟨w.heap.size, 2, none⟩ = some (.int .i64 s.commit) := (cellAt B1.out 2).trans rfl
  have x3 : w0.cell? ⟨w.heap.size, 3, none⟩ = some (.int .i64 s.active) := (cellAt B1.out 3).trans rfl
  have x4 : w0.cell? ⟨w.heap.size, 4, none⟩ = some (.slice A n c) := (cellAt B1.out 4).trans rfl
  clear x0 x1 x2 x3 x4
  go_loopw [3] (fun i wr => ∃ k : Nat, k ≤ n ∧ i = .int .i64 k ∧ (s.log.take k).all (fun r => entryR r) = true ∧ Chg (fun _ => False) w0 wr) (fun i _ => n - (intOf i).toNat)
  case atStart => exact ⟨0, Nat.zero_le _, rfl, rfl, Chg.refl _ _⟩
  case round =>
    obtain ⟨k, hk, rfl, hp, hC⟩ := hrel
    have HP := hid hp
    have HC := hid hC
    have x4 : wr.cell? ⟨w.heap.size, 4, none⟩ = some (.slice A n c) := hC.cell ((cellAt B1.out 4).trans rfl) (fun h => h)
    clear hp
    by_cases hlt : k < n
    · obtain ⟨r, hr⟩ : ∃ r, s.log[k]? = some r := ⟨_, List.getElem?_eq_getElem (by have := L1.out; omega)⟩
      obtain ⟨a, cs, ha, haR, hK, hcs⟩ := HQ.out.get (by decide) hr
      obtain ⟨E1, m1, d1, E2, m2, d2, rfl, hrw⟩ := entry_open (id hK)
      have HRW := hid hrw
      clear hrw
      subst ha
      have hcs2 : ∀ j u, (entryCells r E1 m1 d1 E2 m2 d2)[j]? = some u → wr.cell? (a.add (k * 9 + j)) = some u := fun j u hj => hC.cell (hcs j u hj) (fun h => h)
      have y0 := elem_cell0 hcs2 _ rfl
      have y1 := elem_cell hcs2 0 _ rfl
      have y2 := elem_cell hcs2 1 _ rfl
      have y3 := elem_cell hcs2 2 _ rfl
      have y4 := elem_cell hcs2 3 _ rfl
      have y5 := elem_cell hcs2 4 _ rfl
      have y6 := elem_cell hcs2 5 _ rfl
      have y7 := elem_cell hcs2 6 _ rfl
      have y8 := elem_cell hcs2 7 _ rfl
      have HN := hid (entq_allk hr)
      have HX := hid (entq_alln (xs := s.log) (k := k + 1))
      clear hcs hK hcs2 hr haR hC
      have hlt2 : (k : Int) < (n : Int) := by omega
      go_wp2_with fail
      refine (refentryright_any (e := r) (HRW.out.chg HC.out (fun _ _ h => h))).mono ?_
      rintro e w2 ⟨rfl, h2⟩
      have HC2 := hid (HC.out.trans h2 (fun _ h _ => h))
      clear h2 y0 y1 y2 y3 y4 y5 y6 y7 y8
      cases hrr : entryR r
      · have HF := hid (HX.out (by rw [HN.out, hrr, Bool.and_false]))
        clear hrr
        go_wp2_with fail
        go_ret
        exact ⟨by rw [G.out, HF.out]; rfl, CB.out.trans HC2.out (fun _ h _ => h)⟩
      · have HF := hid (show (s.log.take (k + 1)).all (fun r => entryR r) = true by rw [HN.out, HP.out, hrr]; rfl)
        clear hrr
        go_wp2_with fail
        go_roundw
        case measure => simp [intOf]; omega
        case rel => first | exact ⟨k + 1, hlt, by go_num, HF.out, HC2.out⟩ | ((repeat apply Exists.intro); exact ⟨⟨k + 1, hlt, by go_num, HF.out, HC2.out⟩, rfl⟩)
    · clear hC
      have hkn : ¬ (k : Int) < (n : Int) := by omega
      go_wp2_with fail
      go_ret
      have hp := HP.out
      rw [List.take_of_length_le (by have := L1.out; omega)] at hp
      exact ⟨by rw [G.out, hp]; rfl, CB.out.trans HC.out (fun _ h _ => h)⟩
end Go.Proofs.Ytfpjickdkkhndaa.Pa
