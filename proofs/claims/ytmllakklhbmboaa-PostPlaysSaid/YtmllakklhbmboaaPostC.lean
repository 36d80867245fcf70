/- The contract of Post's Cut, at whatever function is handed in. -/
import Derived.Test.YtmllakklhbmboaaPostL
import Derived.Shelf.Abstract
namespace Go.Proofs.Ytmllakklhbmboaa.Po
set_option linter.unusedVariables false
set_option linter.unusedSimpArgs false
open Go.RowKit Go.Proofs.Ytmllakklhbmboaa.C
attribute [local go_sem] max2_int min2_int max_two min_two

/-- A function value that is asked about packets, one behind the other: St S asked w: its own state lies in S, and it was asked these. -/
structure Clo (fn : Nat) (lb : Array Value) (p : Pk → Bool) (St : (Nat → Prop) → List Pk → World → Prop) : Prop where
  enters : ∀ args w, (callFunc fn args).run Try.prog w = .ok (.enter fn args) w
  chg : ∀ {S M : Nat → Prop} {asked : List Pk} {W W' : World}, St S asked W → Chg M W W' → (∀ k, S k → k < W.heap.size → ¬ M k) → St S asked W'
  call : ∀ {S R : Nat → Prop} {asked : List Pk} {W : World} {x : Pk} {A : Option Addr} {n c : Nat}, St S asked W → PkAt W R x A n c → (∀ k, R k → ¬ S k) → x.data.length ≤ 65546 → asked.length < 5000 →
    Calls Try.prog fn (#[.agg #[.int .i64 x.src, .int .i64 x.dst, .slice A n c]] ++ lb) W fun e W' => e = .returned (.bool (p x)) ∧ ∃ S', St S' (asked ++ [x]) W' ∧ (∀ k, S' k → S k ∨ (W.heap.size ≤ k ∧ k < W'.heap.size) ∨ R k) ∧ Chg S W W'

/-- The state behind: what it was asked, and where it lies now. -/
def AskTo (St : (Nat → Prop) → List Pk → World → Prop) (S : Nat → Prop) (asked : List Pk) (w w' : World) : Prop := ∃ S', St S' asked w' ∧ (∀ k, S' k → S k ∨ (w.heap.size ≤ k ∧ k < w'.heap.size)) ∧ Chg S w w'

set_option maxHeartbeats 1000000 in
theorem cut1_any {fn : Nat} {lb : Array Value} {p : Pk → Bool} {St : (Nat → Prop) → List Pk → World → Prop} (hC : Clo fn lb p St) {S R : Nat → Prop} {asked : List Pk} {w : World} {x : Pk} {A : Option Addr} {n c bx : Nat} (hs : St S asked w) (hS : ∀ k, S k → k < w.heap.size) (hx : PkAt w R x A n c) (hl : x.data.length ≤ 65546) (hal : asked.length < 5000)
    (hb : w.cell? ⟨bx, 0, none⟩ = some (.func (.func fn) #[] lb)) :
    Calls Try.prog 45 #[.agg #[.int .i64 x.src, .int .i64 x.dst, .slice A n c], .pointer (some ⟨bx, 0, none⟩)] w fun e w' => e = .returned (.bool (p x)) ∧ AskTo St S (asked ++ [x]) w w' := by
  have HC := hid hC
  have HS := hid hs
  have HSS := hid hS
  have HX := hid hx
  have HL := hid hl
  obtain ⟨f, t, l⟩ := x
  simp only at HX HL ⊢
  obtain ⟨wb, hwb⟩ : ∃ wb, wb = w.alloc (.cells #[.int .i64 f, .int .i64 t, .slice A n c] 38) := ⟨_, rfl⟩
  have CB := hid (show Chg (fun _ => False) w wb by rw [hwb]; exact (Chg.refl _ w).alloc _)
  have BB := hid (show wb.heap[w.heap.size]? = some (.cells #[.int .i64 f, .int .i64 t, .slice A n c] 38 (0, 0)) by rw [hwb]; exact blk_new w _)
  have hx0 : ∀ wx, Chg (fun _ => False) wb wx → wx.cell? ⟨w.heap.size, 0, none⟩ = some (.int .i64 f) := fun wx hx => hx.cell (by rw [cellAt BB.out]; rfl) (fun h => h)
  have hx1 : ∀ wx, Chg (fun _ => False) wb wx → wx.cell? ⟨w.heap.size, 1, none⟩ = some (.int .i64 t) := fun wx hx => hx.cell (by rw [cellAt BB.out]; rfl) (fun h => h)
  have hx2 : ∀ wx, Chg (fun _ => False) wb wx → wx.cell? ⟨w.heap.size, 2, none⟩ = some (.slice A n c) := fun wx hx => hx.cell (by rw [cellAt BB.out]; rfl) (fun h => h)
  have hf : ∀ wx, Chg (fun _ => False) wb wx → wx.cell? ⟨bx, 0, none⟩ = some (.func (.func fn) #[] lb) := fun wx hx => hx.cell (CB.out.cell hb (fun h => h)) (fun h => h)
  have eg := hC.enters
  clear hC hs hS hx hl hb
  go_enter Try.func45, Try.ntmps45
  go_wp2_with fail
  rw [← hwb]
  clear hwb
  refine wpB_start (fun wx : World => Chg (fun _ => False) wb wx) (by kernel_rfl) ?_
  have hHeld : (fun wx : World => Chg (fun _ => False) wb wx) _ := (by first | assumption | exact Chg.drew (Chg.refl _ _) | (show _ ∧ _; refine ⟨?_, ?_⟩ <;> assumption) | (first | assumption | exact hHeld.trans h2 (fun _ h _ => h.elim)))
  -- 0: t4 := load 63 t1 : 63
  refine wpB_take (i := 0) (v := ?_) (get_of_drop rfl) (by kernel_rfl) (by kernel_rfl) (by kernel_rfl) (by kernel_rfl) (fun _ _ _ h => h) (Or.inl ⟨by rfl, ?_⟩) hHeld ?_
  rotate_left
  · (intro w hSw; (try dsimp only at hSw); go_simp <;> with_reducible rfl)
  try simp only [Act.put, List.setIfInBounds_toArray, List.set_cons_zero, List.set_cons_succ]
  -- 1: t5 := load 38 t2 : 38
  refine wpB_take (i := 1) (v := ?_) (get_of_drop rfl) (by kernel_rfl) (by kernel_rfl) (by kernel_rfl) (by kernel_rfl) (fun _ _ _ h => h) (Or.inl ⟨by rfl, ?_⟩) hHeld ?_
  rotate_left
  · (intro w hSw; (try dsimp only at hSw); go_simp <;> with_reducible rfl)
  try simp only [Act.put, List.setIfInBounds_toArray, List.set_cons_zero, List.set_cons_succ]
  -- 2: t6 := CALL fn39(t5) : 38
  refine wpB_act (i := 2) (by kernel_rfl) (get_of_drop rfl) (fun K hK => ?_)
  go_simp
  refine (copied_any R ⟨f, t, l⟩ A n c _ (HX.out.chg (CB.out.drew) (fun _ _ h => h)) (by have := HL.out; show l.length ≤ _; omega)).mono ?_
  rintro e w2 ⟨A', c', rfl, h1, h2⟩
  refine hK.out _ _ ?_ (fun hHeld2 => ?_)
  · (first | assumption | exact hHeld.trans h2 (fun _ h _ => h.elim))
  clear hHeld hK K
  have hHeld := hHeld2
  clear hHeld2
  try simp only [Act.put, List.setIfInBounds_toArray, List.set_cons_zero, List.set_cons_succ]
  -- 3: t7 := CALL t4(t6) : 4 (BARRIER)
  refine wpB_bar (i := 3) (by kernel_rfl) (get_of_drop rfl) (by kernel_rfl) (fun K hK => ?_)
  go_simp
  have HCC := hid ((CB.out.drew).trans h2 (fun _ h _ => h))
  refine (HC.out.call (S := S) (R := fun k => (wb.drew.heap.size ≤ k ∧ k < w2.heap.size)) (HC.out.chg HS.out HCC.out (fun _ _ _ h => h)) h1.bound (fun k hk hs => ?_) HL.out hal).mono ?_
  · have q1 := HSS.out k hs
    have q2 := CB.out.size
    have q3 : wb.heap.size ≤ k := hk.1
    omega
  rintro e w3 ⟨rfl, S', h5, h6, h7⟩
  have HFIN := hid (show AskTo St S (asked ++ [⟨f, t, l⟩]) w w3 from ⟨S', h5, fun k hk => (by
    rcases h6 k hk with q | q | q
    · exact .inl q
    · exact .inr ⟨Nat.le_trans HCC.out.size q.1, q.2⟩
    · exact .inr ⟨Nat.le_trans CB.out.size q.1, Nat.lt_of_lt_of_le q.2 h7.size⟩), (HCC.out.mono (fun _ h _ => h.elim)).trans h7 (fun _ h _ => h)⟩)
  refine hK.out _ _ (fun _ : World => True) ?_
  clear hHeld hK K
  have hHeld := trivial
  try simp only [Act.put, List.setIfInBounds_toArray, List.set_cons_zero, List.set_cons_succ]
  -- 4: t3 := assign t7 : 4
  refine wpB_take (i := 4) (v := ?_) (get_of_drop rfl) (by kernel_rfl) (by kernel_rfl) (by kernel_rfl) (by kernel_rfl) (fun _ _ _ h => h) (Or.inl ⟨by rfl, ?_⟩) hHeld ?_
  rotate_left
  · (intro w hSw; (try dsimp only at hSw); go_simp <;> with_reducible rfl)
  try simp only [Act.put, List.setIfInBounds_toArray, List.set_cons_zero, List.set_cons_succ]
  refine wpB_done (by kernel_rfl) ?_ _
  clear h1 h2 h5 h6 h7 hx0 hx1 hx2 hf
  go_wp2_with fail
  go_ret
  exact ⟨rfl, HFIN.out⟩

theorem AskTo.more {St : (Nat → Prop) → List Pk → World → Prop} {S S1 : Nat → Prop} {b : List Pk} {w w1 w2 : World} (h2 : ∀ k, S1 k → S k ∨ (w.heap.size ≤ k ∧ k < w1.heap.size)) (h3 : Chg S w w1) (h : AskTo St S1 b w1 w2) : AskTo St S b w w2 := by
  obtain ⟨S2, k1, k2, k3⟩ := h
  refine ⟨S2, k1, fun j hj => ?_, h3.trans k3 (fun j hj hlt => ?_)⟩
  · rcases k2 j hj with q | q
    · rcases h2 j q with q | q
      · exact .inl q
      · exact .inr ⟨q.1, Nat.lt_of_lt_of_le q.2 k3.size⟩
    · exact .inr ⟨Nat.le_trans h3.size q.1, q.2⟩
  · rcases h2 j hj with q | q
    · exact q
    · omega
/-- What slices.IndexFunc tells. -/
def IdxTo (p : Pk → Bool) (ps : List Pk) (St : (Nat → Prop) → List Pk → World → Prop) (S : Nat → Prop) (asked : List Pk) (w : World) (e : Ending) (w' : World) : Prop :=
  (e = .returned (.int .i64 (-1)) ∧ (∀ x ∈ ps, p x = false) ∧ AskTo St S (asked ++ ps) w w') ∨
  (∃ (i : Nat) (x : Pk), ps[i]? = some x ∧ e = .returned (.int .i64 (i : Int)) ∧ p x = true ∧ (∀ y ∈ ps.take i, p y = false) ∧ AskTo St S (asked ++ ps.take (i + 1)) w w')

set_option maxHeartbeats 2000000 in
theorem index_any {fn : Nat} {lb : Array Value} {p : Pk → Bool} {St : (Nat → Prop) → List Pk → World → Prop} (hC : Clo fn lb p St) {S SP DP : Nat → Prop} {asked ps : List Pk} {w : World} {A : Option Addr} {c bx : Nat} (hs : St S asked w) (hS : ∀ k, S k → k < w.heap.size)
    (hv : Vec pkK 38 w SP DP (.slice A ps.length c) ps) (h1 : ∀ k, SP k → ¬ S k) (h2 : ∀ k, DP k → ¬ S k) (hok : ps.length ≤ 4096) (hal : asked.length + ps.length ≤ 5000) (hbig : ∀ x ∈ ps, x.data.length ≤ 65546) (hb : w.cell? ⟨bx, 0, none⟩ = some (.func (.func fn) #[] lb)) (hbS : ¬ S bx) :
    Calls Try.prog 46 #[.slice A ps.length c, .func (.func 45) #[] #[.pointer (some ⟨bx, 0, none⟩)]] w (IdxTo p ps St S asked w) := by
  have HC := hid hC
  have HS := hid hs
  have HSS := hid hS
  have HV := hid hv
  have H1 := hid h1
  have H2 := hid h2
  have HBIG := hid hbig
  have hl : (ps.length : Int) ≤ 4096 := by omega
  have hbl : bx < w.heap.size := World.block_lt_of_cell? w _ hb
  have eg : ∀ args w, (callFunc 45 args).run Try.prog w = .ok (.enter 45 args) w := Go.Proofs.enters_of Try.func45 (by kernel_rfl) rfl
  clear hC hs hS hv h1 h2 hbig
  go_enter Try.func46, Try.ntmps46
  go_wp2_with fail
  go_loopw [8] (fun i wr => ∃ k : Nat, k ≤ ps.length ∧ i = .int .i64 k ∧ (∀ y ∈ ps.take k, p y = false) ∧ AskTo St S (asked ++ ps.take k) w wr) (fun i _ => ps.length - (intOf i).toNat)
  case atStart => exact ⟨0, Nat.zero_le _, rfl, by simp, S, by simpa using HS.out, fun k hk => .inl hk, Chg.refl _ _⟩
  case round =>
    obtain ⟨k, hk, rfl, hno, hA⟩ := hrel
    have HNO := hid hno
    have HA := hid hA
    obtain ⟨S1, hs1, hs2, hs3⟩ := hA
    have HS1 := hid hs1
    have HS2 := hid hs2
    have HS3 := hid hs3
    clear hno hs1 hs2
    by_cases hlt : k < ps.length
    · obtain ⟨g2, cs, hB, hS2, hg2, hK, hc⟩ := HV.out.get (by decide) (List.getElem?_eq_getElem hlt)
      obtain ⟨A2, n2, c2, rfl, hx⟩ := pk_open hK
      subst hB
      have hbx := HBIG.out _ (List.getElem_mem hlt)
      have HTK := hid (show ps.take (k + 1) = ps.take k ++ [ps[k]] from List.take_succ_eq_append_getElem hlt)
      have HGE := hid (List.getElem?_eq_getElem hlt)
      generalize ps[k] = x at hx hc hbx HTK HGE
      have HX := hid (hx.chg hs3 (fun k hk => H2.out k hk.1))
      have HBX := hid hbx
      have x0 : wr.cell? ⟨g2, k * 3, none⟩ = some (.int .i64 x.src) := hs3.cell (hc 0 _ rfl) (H1.out _ hS2)
      have x1 : wr.cell? ⟨g2, k * 3 + 1, none⟩ = some (.int .i64 x.dst) := hs3.cell (hc 1 _ rfl) (H1.out _ hS2)
      have x2 : wr.cell? ⟨g2, k * 3 + 2, none⟩ = some (.slice A2 n2 c2) := hs3.cell (hc 2 _ rfl) (H1.out _ hS2)
      have HB := hid (hs3.cell hb hbS)
      have HLT1 := hid (show ∀ k, S1 k → k < wr.heap.size from fun k hk => by
        rcases HS2.out k hk with q | q
        · exact Nat.lt_of_lt_of_le (HSS.out k q) HS3.out.size
        · exact q.2)
      clear hx hc hK hbx hs3
      go_wp2_with fail
      refine (cut1_any HC.out HS1.out HLT1.out HX.out HBX.out (by rw [List.length_append, List.length_take]; omega) HB.out).mono ?_
      rintro e w3 ⟨rfl, h3⟩
      have HA3 := hid (show AskTo St S (asked ++ ps.take (k + 1)) w w3 by
        have q := AskTo.more HS2.out HS3.out h3
        rw [List.append_assoc, ← HTK.out] at q
        exact q)
      clear h3
      cases hp : p x
      · have HN3 := hid (show ∀ y ∈ ps.take (k + 1), p y = false from fun y hy => by
          rw [HTK.out] at hy
          rcases List.mem_append.1 hy with hy | hy
          · exact HNO.out y hy
          · rw [List.mem_singleton.1 hy]; exact hp)
        clear hp
        go_wp2_with fail
        go_roundw
        case measure => simp [intOf]; omega
        case rel => first | exact ⟨k + 1, by omega, by go_num, HN3.out, HA3.out⟩ | ((repeat apply Exists.intro); exact ⟨⟨k + 1, by omega, by go_num, HN3.out, HA3.out⟩, rfl⟩)
      · have HP := hid hp
        clear hp
        go_wp2_with fail
        go_ret
        exact .inr ⟨k, x, HGE.out, rfl, HP.out, HNO.out, HA3.out⟩
    · obtain rfl : k = ps.length := by omega
      clear hs3
      go_wp2_with fail
      go_ret
      have e : ps.take ps.length = ps := List.take_length
      exact .inl ⟨rfl, by have := HNO.out; rwa [e] at this, by have := HA.out; rwa [e] at this⟩
end Go.Proofs.Ytmllakklhbmboaa.Po
