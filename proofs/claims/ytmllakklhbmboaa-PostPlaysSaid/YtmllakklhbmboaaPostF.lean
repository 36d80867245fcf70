/- The contract of slices.DeleteFunc at packets, and of Cut. -/
import Derived.Test.YtmllakklhbmboaaPostC
namespace Go.Proofs.Ytmllakklhbmboaa.Po
set_option linter.unusedVariables false
set_option linter.unusedSimpArgs false
open Go.RowKit Go.Proofs.Ytmllakklhbmboaa.C
attribute [local go_sem] max2_int min2_int max_two min_two

/-- Those to which the answer is no. -/
def fil (p : Pk → Bool) (l : List Pk) : List Pk := l.filter fun x => !p x
theorem fil_app (p : Pk → Bool) (a b : List Pk) : fil p (a ++ b) = fil p a ++ fil p b := by simp [fil]
theorem fil_no {p : Pk → Bool} {l : List Pk} (h : ∀ x ∈ l, p x = false) : fil p l = l := by
  unfold fil
  rw [List.filter_eq_self]
  intro x hx
  simp [h x hx]
theorem fil_one (p : Pk → Bool) (x : Pk) : fil p [x] = if p x = true then [] else [x] := by
  unfold fil
  cases h : p x <;> simp [h]
theorem fil_le (p : Pk → Bool) (l : List Pk) : (fil p l).length ≤ l.length := List.length_filter_le _ _

def DelTo (St : (Nat → Prop) → List Pk → World → Prop) (S SP DP : Nat → Prop) (asked : List Pk) (A : Option Addr) (c : Nat) (ps : List Pk) (w w' : World) : Prop :=
  Vec pkK 38 w' SP DP (.slice A ps.length c) ps ∧ ∃ S', St S' asked w' ∧ (∀ k, S' k → S k ∨ (w.heap.size ≤ k ∧ k < w'.heap.size)) ∧ Chg (fun k => S k ∨ (Value.slice A ps.length c).ownBlock = some k) w w'

/-- The state of DeleteFunc's loop: j packets were asked, those that stay lie ahead. -/
structure DelAt (p : Pk → Bool) (ps : List Pk) (St : (Nat → Prop) → List Pk → World → Prop) (S D : Nat → Prop) (asked : List Pk) (b cap : Nat) (cur0 : Array Value) (w : World) (j q : Nat) (wr : World) : Prop where
  qe : q = (fil p (ps.take j)).length
  st : ∃ S', St S' (asked ++ ps.take j) wr ∧ (∀ k, S' k → S k ∨ (w.heap.size ≤ k ∧ k < wr.heap.size))
  chg : Chg (fun k => S k ∨ k = b) w wr
  blk : ∃ cur : Array Value, wr.heap[b]? = some (.cells cur 38 (0, 0)) ∧ cur.size = cap * 3 ∧ cur.toList.drop (j * 3) = cur0.toList.drop (j * 3) ∧ Ty.Row pkK w D (fil p (ps.take j)) (cur.toList.take (q * 3))

theorem DelAt.skip {p : Pk → Bool} {ps : List Pk} {St : (Nat → Prop) → List Pk → World → Prop} {S D : Nat → Prop} {asked : List Pk} {b cap : Nat} {cur0 : Array Value} {w wr w3 : World} {j q : Nat} {x : Pk} (h : DelAt p ps St S D asked b cap cur0 w j q wr) (hx : ps[j]? = some x) (hp : p x = true)
    (hb : ¬ S b) (hbl : b < w.heap.size) (h3 : ∃ S', St S' (asked ++ ps.take (j + 1)) w3 ∧ (∀ k, S' k → S k ∨ (w.heap.size ≤ k ∧ k < w3.heap.size))) (hc : Chg (fun k => S k ∨ k = b) w w3) (hbb : w3.heap[b]? = wr.heap[b]?) : DelAt p ps St S D asked b cap cur0 w (j + 1) q w3 := by
  have hl : j < ps.length := by
    rcases Nat.lt_or_ge j ps.length with h | h
    · exact h
    · rw [List.getElem?_eq_none h] at hx; cases hx
  have e : ps.take (j + 1) = ps.take j ++ [x] := by rw [List.take_add_one, hx]; rfl
  have e2 : fil p (ps.take (j + 1)) = fil p (ps.take j) := by rw [e, fil_app, fil_one, if_pos hp, List.append_nil]
  obtain ⟨cur, h1, h2, h4, h5⟩ := h.blk
  refine ⟨by rw [e2]; exact h.qe, h3, hc, cur, hbb.trans h1, h2, ?_, by rw [e2]; exact h5⟩
  have := congrArg (List.drop 3) h4
  rw [List.drop_drop, List.drop_drop] at this
  rw [show (j + 1) * 3 = j * 3 + 3 by omega]
  exact this

theorem set3_row {g q : Nat} {e : TypeId} {w : World} {cur : Array Value} (h : w.heap[g]? = some (.cells cur e (0, 0))) (a b c : Value) (hl : q * 3 + 3 ≤ cur.size) :
    ∃ cur', (((w.setCell ⟨g, q * 3, none⟩ a).setCell ⟨g, q * 3 + 1, none⟩ b).setCell ⟨g, q * 3 + 2, none⟩ c).heap[g]? = some (.cells cur' e (0, 0)) ∧ cur'.toList = cur.toList.take (q * 3) ++ [a, b, c] ++ cur.toList.drop (q * 3 + 3) := by
  have := setCells_row (g := g) (e := e) [a, b, c] (q * 3) w cur h (by simpa using hl)
  simpa [World.setCells] using this

theorem DelAt.keep {p : Pk → Bool} {ps : List Pk} {St : (Nat → Prop) → List Pk → World → Prop} {S D : Nat → Prop} {asked : List Pk} {b cap : Nat} {cur0 : Array Value} {w wr w3 w4 : World} {j q : Nat} {x : Pk} {A : Option Addr} {n c : Nat} (h : DelAt p ps St S D asked b cap cur0 w j q wr) (hx : ps[j]? = some x) (hp : p x = false)
    (hq : q ≤ j) (hcap : ps.length ≤ cap) (hk : PkAt w D x A n c) (hbb : w3.heap[b]? = wr.heap[b]?) (h4 : w4 = ((w3.setCell ⟨b, q * 3, none⟩ (.int .i64 x.src)).setCell ⟨b, q * 3 + 1, none⟩ (.int .i64 x.dst)).setCell ⟨b, q * 3 + 2, none⟩ (.slice A n c))
    (h3 : ∃ S', St S' (asked ++ ps.take (j + 1)) w4 ∧ (∀ k, S' k → S k ∨ (w.heap.size ≤ k ∧ k < w4.heap.size))) (hc : Chg (fun k => S k ∨ k = b) w w3) : DelAt p ps St S D asked b cap cur0 w (j + 1) (q + 1) w4 := by
  have hl : j < ps.length := by
    rcases Nat.lt_or_ge j ps.length with h | h
    · exact h
    · rw [List.getElem?_eq_none h] at hx; cases hx
  have e : ps.take (j + 1) = ps.take j ++ [x] := by rw [List.take_add_one, hx]; rfl
  have e2 : fil p (ps.take (j + 1)) = fil p (ps.take j) ++ [x] := by rw [e, fil_app, fil_one, if_neg (by simp [hp])]
  obtain ⟨cur, h1, h2, h5, h6⟩ := h.blk
  have hc4 : Chg (fun k => S k ∨ k = b) w w4 := by rw [h4]; exact ((hc.set (fun _ => .inr rfl) _).set (fun _ => .inr rfl) _).set (fun _ => .inr rfl) _
  obtain ⟨cur', g1, g2⟩ := set3_row (q := q) (hbb.trans h1) (.int .i64 x.src) (.int .i64 x.dst) (.slice A n c) (by rw [h2]; omega)
  have hcl : cur.toList.length = cap * 3 := by rw [Array.length_toList, h2]
  refine ⟨by rw [e2, List.length_append, ← h.qe]; rfl, h3, hc4, cur', by rw [h4]; exact g1, ?_, ?_, ?_⟩
  · rw [← Array.length_toList, g2]
    simp only [List.length_append, List.length_take, List.length_drop, hcl, List.length_cons, List.length_nil]
    omega
  · have := congrArg (List.drop 3) h5
    rw [List.drop_drop, List.drop_drop] at this
    rw [show (j + 1) * 3 = j * 3 + 3 by omega, ← this, g2, List.append_assoc, List.drop_append, List.length_take, hcl, Nat.min_eq_left (by omega), List.drop_eq_nil_of_le (by rw [List.length_take, hcl]; omega), List.nil_append, List.drop_append]
    simp only [List.length_cons, List.length_nil]
    rw [List.drop_eq_nil_of_le (by simp only [List.length_cons, List.length_nil]; omega), List.nil_append, List.drop_drop]
    congr 1
    omega
  · rw [e2, g2]
    have := Ty.Row.append h6 (Ty.Row.one_ (pk_shut hk))
    have hl4 : (cur.toList.take (q * 3) ++ [Value.int .i64 x.src, .int .i64 x.dst, .slice A n c]).length = (q + 1) * 3 := by
      simp only [List.length_append, List.length_take, hcl, List.length_cons, List.length_nil]
      omega
    rw [← hl4, List.take_left]
    exact this

theorem DelAt.elem {p : Pk → Bool} {ps : List Pk} {St : (Nat → Prop) → List Pk → World → Prop} {S D : Nat → Prop} {asked : List Pk} {b cap : Nat} {cur0 : Array Value} {w wr : World} {j q : Nat} {cells : List Value} {x : Pk} (h : DelAt p ps St S D asked b cap cur0 w j q wr) (hrow : Ty.Row pkK w D ps cells) (q4 : cur0.toList.take (ps.length * 3) = cells) (hx : ps[j]? = some x) :
    ∃ A n c, PkAt w D x A n c ∧ wr.cell? ⟨b, j * 3, none⟩ = some (.int .i64 x.src) ∧ wr.cell? ⟨b, j * 3 + 1, none⟩ = some (.int .i64 x.dst) ∧ wr.cell? ⟨b, j * 3 + 2, none⟩ = some (.slice A n c) := by
  have hl : j < ps.length := by
    rcases Nat.lt_or_ge j ps.length with h | h
    · exact h
    · rw [List.getElem?_eq_none h] at hx; cases hx
  obtain ⟨A, n, c, hcs, hk⟩ := pk_open (hrow.2 j x hx)
  obtain ⟨cur, h1, h2, h5, h6⟩ := h.blk
  have key : ∀ t u, t < 3 → ([Value.int .i64 x.src, .int .i64 x.dst, .slice A n c])[t]? = some u → wr.cell? ⟨b, j * 3 + t, none⟩ = some u := fun t u ht hu => by
    rw [← hcs, pkK_sz, List.getElem?_take, if_pos ht, List.getElem?_drop, ← q4, List.getElem?_take, if_pos (by omega)] at hu
    have h7 := congrArg (·[t]?) h5
    simp only [List.getElem?_drop] at h7
    rw [cellAt h1, ← Array.getElem?_toList, h7]
    exact hu
  exact ⟨A, n, c, hk, key 0 _ (by omega) rfl, key 1 _ (by omega) rfl, key 2 _ (by omega) rfl⟩

set_option maxHeartbeats 4000000 in
set_option maxRecDepth 100000 in
theorem delfunc_any {fn : Nat} {lb : Array Value} {p : Pk → Bool} {St : (Nat → Prop) → List Pk → World → Prop} (hC : Clo fn lb p St) {S SP DP : Nat → Prop} {asked ps : List Pk} {w : World} {A : Option Addr} {c bx : Nat} (hs : St S asked w) (hS : ∀ k, S k → k < w.heap.size)
    (hv : Vec pkK 38 w SP DP (.slice A ps.length c) ps) (h1 : ∀ k, SP k → ¬ S k) (h2 : ∀ k, DP k → ¬ S k) (hok : ps.length ≤ 4096) (hal : asked.length + ps.length ≤ 5000) (hbig : ∀ x ∈ ps, x.data.length ≤ 65546) (hb : w.cell? ⟨bx, 0, none⟩ = some (.func (.func fn) #[] lb)) (hbS : ¬ S bx) (hbP : ¬ SP bx) :
    Calls Try.prog 44 #[.slice A ps.length c, .func (.func 45) #[] #[.pointer (some ⟨bx, 0, none⟩)]] w fun e w' => e = .returned (.slice A (fil p ps).length c) ∧ DelTo St S SP DP (asked ++ ps) A c (fil p ps) w w' := by
  have HC := hid hC
  have HS := hid hs
  have HSS := hid hS
  have HV := hid hv
  have H1 := hid h1
  have H2 := hid h2
  have HBIG := hid hbig
  have HIDX := hid (index_any hC hs hS hv h1 h2 hok hal hbig hb hbS)
  have hl : (ps.length : Int) ≤ 4096 := by omega
  have hbl : bx < w.heap.size := World.block_lt_of_cell? w _ hb
  have eg : ∀ args w, (callFunc 45 args).run Try.prog w = .ok (.enter 45 args) w := Go.Proofs.enters_of Try.func45 (by kernel_rfl) rfl
  clear hC hs hS hv h1 h2 hbig
  go_enter Try.func44, Try.ntmps44
  go_wp2_with fail
  refine HIDX.out.mono ?_
  rintro e w1 hi
  rcases hi with ⟨rfl, hno, hA⟩ | ⟨i, x0, hx0, rfl, hpx0, hno, hA⟩
  · have HF := hid (fil_no hno)
    have HA := hid hA
    clear hno hA
    go_wp2_with fail
    go_ret
    rw [HF.out]
    obtain ⟨S', a1, a2, a3⟩ := HA.out
    exact ⟨rfl, HV.out.chg a3 (fun k hk => H1.out k (HV.out.inS k hk)) (fun k hk _ _ => H2.out k hk), S', a1, a2, a3.mono (fun k hk _ => .inl hk)⟩
  · have hil : i < ps.length := by
      rcases Nat.lt_or_ge i ps.length with h | h
      · exact h
      · rw [List.getElem?_eq_none h] at hx0; cases hx0
    obtain ⟨g2, cs0, hB, hS2, hg2, _, _⟩ := HV.out.get (by decide) hx0
    subst hB
    obtain ⟨cells, hown, hSP, hrow⟩ := HV.out
    obtain ⟨hlen, hrw⟩ := hown
    rcases hrw with ⟨hv', _⟩ | ⟨g, cap', cur0, hv', _, hb0, q1, q2, q3, q4⟩
    · cases hv'
    injection hv' with e1 e2 e3
    injection e1 with e1
    injection e1 with e1
    subst e1 e3
    simp only [pkK_sz] at hlen q3 q4
    have hg2S := H1.out _ hS2
    have hD : ∀ k, (DP k ∧ (Value.slice (some ⟨g2, 0, none⟩) ps.length c).ownBlock ≠ some k ∧ k < w.heap.size) → ¬ (S k ∨ k = g2) := fun k hk h => by
      rcases h with h | h
      · exact H2.out k hk.1 h
      · exact hk.2.1 (by rw [h]; rfl)
    have hfi : fil p (ps.take (i + 1)) = ps.take i := by
      rw [List.take_add_one, hx0, Option.toList_some, fil_app, fil_no hno, fil_one, if_pos hpx0, List.append_nil]
    obtain ⟨S1, a1, a2, a3⟩ := hA
    have hI : DelAt p ps St S (fun k => DP k ∧ (Value.slice (some ⟨g2, 0, none⟩) ps.length c).ownBlock ≠ some k ∧ k < w.heap.size) asked g2 c cur0 w (i + 1) i w1 := by
      refine ⟨by rw [hfi, List.length_take]; omega, ⟨S1, a1, a2⟩, a3.mono (fun k hk _ => .inl hk), cur0, a3.blk hb0 hg2S, q3, rfl, ?_⟩
      rw [hfi]
      have := hrow.take i
      rw [pkK_sz, ← q4, List.take_take, Nat.min_eq_left (by omega)] at this
      exact this
    have HI := hid hI
    have HB0 := hid hb0
    have Q3 := hid q3
    have Q4 := hid q4
    have HLEN := hid hlen
    have HROW := hid hrow
    have HD := hid hD
    have HFI := hid hfi
    have HX0 := hid hx0
    have HP0 := hid hpx0
    have HG2 := hid hg2S
    have HSP := hid hSP
    have hgb : bx ≠ g2 := fun e => hbP (by rw [e]; exact hS2)
    have hne1 : ((i : Int) == -1) = false := by simp
    clear hI hb0 q3 q4 hlen hrow hD hfi hx0 hpx0 hno a1 a2 a3 hSP hg2S
    obtain ⟨D, hDD⟩ : ∃ D : Nat → Prop, D = fun k => DP k ∧ (Value.slice (some ⟨g2, 0, none⟩) ps.length c).ownBlock ≠ some k ∧ k < w.heap.size := ⟨_, rfl⟩
    rw [← hDD] at HI HROW
    have HDD := hid hDD
    have HD' := hid (show ∀ k, D k → ¬ (S k ∨ k = g2) from fun k hk => HD.out k (by rw [hDD] at hk; exact hk))
    clear hDD HD
    go_wp2_with fail
    go_loopw [5, 6] (fun t5 t6 wr => ∃ j q : Nat, j ≤ ps.length ∧ q < j ∧ t6 = .int .i64 j ∧ t5 = .int .i64 q ∧ DelAt p ps St S D asked g2 c cur0 w j q wr) (fun _ t6 _ => ps.length - (intOf t6).toNat)
    case atStart => exact ⟨i + 1, i, by omega, by omega, by go_num, rfl, HI.out⟩
    case round =>
      obtain ⟨j, q, hj, hqj, rfl, rfl, hT⟩ := hrel
      have HT := hid hT
      clear hT
      by_cases hlt : j < ps.length
      · obtain ⟨x, hx⟩ : ∃ x, ps[j]? = some x := ⟨_, List.getElem?_eq_getElem hlt⟩
        obtain ⟨A2, n2, c2, hk, y0, y1, y2⟩ := HT.out.elem HROW.out Q4.out hx
        have hxb := HBIG.out x (List.mem_of_getElem? hx)
        have HXB := hid hxb
        have HX := hid hx
        have HK := hid hk
        have HTK := hid (show ps.take (j + 1) = ps.take j ++ [x] by rw [List.take_add_one, hx]; rfl)
        clear hx hk hxb
        obtain ⟨S1, s1, s2⟩ := HT.out.st
        have HS1 := hid s1
        have HS2 := hid s2
        obtain ⟨wa, hwa⟩ : ∃ wa, wa = wr.alloc (.cells #[.int .i64 x.src, .int .i64 x.dst, .slice A2 n2 c2] 38) := ⟨_, rfl⟩
        have CA := hid (show Chg (fun _ => False) wr wa by rw [hwa]; exact (Chg.refl _ wr).alloc _)
        have BA := hid (show wa.heap[wr.heap.size]? = some (.cells #[.int .i64 x.src, .int .i64 x.dst, .slice A2 n2 c2] 38 (0, 0)) by rw [hwa]; exact blk_new wr _)
        have HWA := hid hwa
        clear s1 s2
        go_wp2_with fail
        rw [← hwa]
        clear hwa
        refine (cut1_any HC.out (HC.out.chg HS1.out CA.out (fun _ _ _ h => h)) (fun k hk => ?_) ((HK.out.chg HT.out.chg HD'.out).chg CA.out (fun _ _ h => h)) HXB.out (by rw [List.length_append, List.length_take]; omega) (CA.out.cell (HT.out.chg.cell hb (fun h => by
          rcases h with h | h
          · exact hbS h
          · exact hgb h)) (fun h => h))).mono ?_
        · have := CA.out.size
          have := HT.out.chg.size
          rcases HS2.out k hk with q | q
          · have := HSS.out k q; omega
          · omega
        rintro e w3 ⟨rfl, h3⟩
        obtain ⟨S3, k1, k2, k3⟩ := h3
        have hS1b : ¬ S1 g2 := fun h => by
          rcases HS2.out _ h with q | q
          · exact HG2.out q
          · omega
        have hbl2 : g2 < wa.heap.size := by have := CA.out.size; have := HT.out.chg.size; omega
        have HBB := hid (show w3.heap[g2]? = wr.heap[g2]? from (k3.block g2 hbl2 hS1b).trans (CA.out.block g2 (by have := HT.out.chg.size; omega) (fun h => h)))
        have HC3 := hid (show Chg (fun k => S k ∨ k = g2) w w3 from (HT.out.chg.trans CA.out (fun _ h _ => h.elim)).trans k3 (fun k hk hlt => by
          rcases HS2.out k hk with q | q
          · exact .inl q
          · omega))
        have HK1 := hid k1
        have HK2 := hid (show ∀ k, S3 k → S k ∨ (w.heap.size ≤ k ∧ k < w3.heap.size) from fun k hk => by
          rcases k2 k hk with q | q
          · rcases HS2.out k q with q | q
            · exact .inl q
            · exact .inr ⟨q.1, Nat.lt_of_lt_of_le q.2 (Nat.le_trans CA.out.size k3.size)⟩
          · exact .inr ⟨Nat.le_trans HT.out.chg.size (Nat.le_trans CA.out.size q.1), q.2⟩)
        have HAP := hid (show asked ++ ps.take j ++ [x] = asked ++ ps.take (j + 1) by rw [HTK.out, List.append_assoc])
        have hwb : w3.heap[wr.heap.size]? = some (.cells #[.int .i64 x.src, .int .i64 x.dst, .slice A2 n2 c2] 38 (0, 0)) := k3.blk BA.out (fun h => by
          rcases HS2.out _ h with q | q
          · have := HSS.out _ q; have := HT.out.chg.size; omega
          · omega)
        have v0 : w3.cell? ⟨wr.heap.size, 0, none⟩ = some (.int .i64 x.src) := by rw [cellAt hwb]; rfl
        have v1 : w3.cell? ⟨wr.heap.size, 1, none⟩ = some (.int .i64 x.dst) := by rw [cellAt hwb]; rfl
        have v2 : w3.cell? ⟨wr.heap.size, 2, none⟩ = some (.slice A2 n2 c2) := by rw [cellAt hwb]; rfl
        obtain ⟨cur, hcur, hcs, _, _⟩ := HT.out.blk
        have hcur3 := HBB.out.trans hcur
        obtain ⟨u0, hu0⟩ : ∃ u, w3.cell? ⟨g2, q * 3, none⟩ = some u := by rw [cellAt hcur3]; exact ⟨_, Array.getElem?_eq_getElem (by omega)⟩
        obtain ⟨u1, hu1⟩ : ∃ u, w3.cell? ⟨g2, q * 3 + 1, none⟩ = some u := by rw [cellAt hcur3]; exact ⟨_, Array.getElem?_eq_getElem (by omega)⟩
        obtain ⟨u2, hu2⟩ : ∃ u, w3.cell? ⟨g2, q * 3 + 2, none⟩ = some u := by rw [cellAt hcur3]; exact ⟨_, Array.getElem?_eq_getElem (by omega)⟩
        have f0 := freeAt hcur3 (q * 3)
        have f1 := freeAt hcur3 (q * 3 + 1)
        have f2 := freeAt hcur3 (q * 3 + 2)
        clear k1 k2 k3 hS1b hbl2 hwb hcur hcs hcur3 y0 y1 y2
        have hqn : (q : Int) < (ps.length : Int) := by omega
        cases hp : p x
        · obtain ⟨w4, hw4⟩ : ∃ w4, w4 = ((w3.setCell ⟨g2, q * 3, none⟩ (.int .i64 x.src)).setCell ⟨g2, q * 3 + 1, none⟩ (.int .i64 x.dst)).setCell ⟨g2, q * 3 + 2, none⟩ (.slice A2 n2 c2) := ⟨_, rfl⟩
          have C4 := hid (show Chg (fun k => k = g2) w3 w4 by rw [hw4]; exact (((Chg.refl (fun k => k = g2) w3).set (fun _ => rfl) _).set (fun _ => rfl) _).set (fun _ => rfl) _)
          have HN := hid (HT.out.keep HX.out hp (by omega) q1 HK.out HBB.out hw4 ⟨S3, HC.out.chg (by rw [← HAP.out]; exact HK1.out) C4.out (fun k hk _ e => by
            rcases HK2.out k hk with h | h
            · exact HG2.out (by rw [← e]; exact h)
            · omega), fun k hk => by
            rcases HK2.out k hk with h | h
            · exact .inl h
            · exact .inr ⟨h.1, Nat.lt_of_lt_of_le h.2 C4.out.size⟩⟩ HC3.out)
          rw [hw4] at HN
          clear hp hw4
          go_wp2_with fail
          go_roundw
          case measure => simp [intOf]; omega
          case rel => first | exact ⟨j + 1, q + 1, by omega, by omega, by go_num, by go_num, HN.out⟩ | ((repeat apply Exists.intro); exact ⟨⟨j + 1, q + 1, by omega, by omega, by go_num, by go_num, HN.out⟩, rfl⟩)
        · have HN := hid (HT.out.skip HX.out hp HG2.out hg2 ⟨S3, by rw [← HAP.out]; exact HK1.out, HK2.out⟩ HC3.out HBB.out)
          clear hp
          go_wp2_with fail
          go_roundw
          case measure => simp [intOf]; omega
          case rel => first | exact ⟨j + 1, q, by omega, by omega, by go_num, rfl, HN.out⟩ | ((repeat apply Exists.intro); exact ⟨⟨j + 1, q, by omega, by omega, by go_num, rfl, HN.out⟩, rfl⟩)
      · obtain rfl : j = ps.length := by omega
        obtain ⟨cur, hcur, hcs, _, hrw⟩ := HT.out.blk
        obtain ⟨S1, s1, s2⟩ := HT.out.st
        have hqe := HT.out.qe
        rw [List.take_length] at hqe hrw s1
        obtain ⟨i8, hi8, _, hz8, _⟩ := info_parts info38
        have hcut1 := fun W => cut_to (P := Try.prog) 57 38 .i64 Try.underlying57 hi8 (some ⟨g2, 0, none⟩) ps.length c q (by omega) W
        have hcut2 : ∀ W, (Instr.slice 57 (.slice (some ⟨g2, 0, none⟩) ps.length c) (some (.int .i64 (q : Int))) none none).run Try.prog W = .ok (.slice (some ⟨g2, q * 3, none⟩) (ps.length - q) (c - q)) W := fun W => by
          have h := cut_from (P := Try.prog) 57 38 .i64 Try.underlying57 hi8 3 hz8 (some ⟨g2, 0, none⟩) ps.length c q (by omega) W
          rw [if_neg (by omega)] at h
          simpa [add_at] using h
        obtain ⟨zs, hzl, hclear⟩ := clear_run (P := Try.prog) wr 57 38 0 (.agg #[.int .i64 0, .int .i64 0, .slice none 0 0]) 3 Try.underlying57 (fun w => by kernel_rfl) rfl (by decide) (by decide) hcur (q * 3) (ps.length - q) (c - q) (by omega) (by rw [hcs, ← Nat.add_mul]; exact Nat.mul_le_mul_right _ (by omega))
        obtain ⟨cur3, hb3, hl3⟩ := setCells_row (g := g2) zs (q * 3) wr cur hcur (by rw [hzl, hcs, ← Nat.add_mul]; exact Nat.mul_le_mul_right _ (by omega))
        have C3 := hid (setCells_chg g2 zs (q * 3) wr)
        generalize wr.setCells g2 (q * 3) zs = w4 at hb3 C3 hclear
        have hfin : DelTo St S SP DP (asked ++ ps) (some ⟨g2, 0, none⟩) c (fil p ps) w w4 := by
          refine ⟨⟨cur.toList.take (q * 3), ⟨?_, .inr ⟨g2, c, cur3, rfl, Nat.zero_le _, hb3, by rw [← hqe]; omega, q2, ?_, ?_⟩⟩, HSP.out, ?_⟩, S1, HC.out.chg s1 C3.out (fun k hk _ e => ?_), fun k hk => ?_, ?_⟩
          · rw [List.length_take, Array.length_toList, hcs, ← hqe, pkK_sz, Nat.min_eq_left (Nat.mul_le_mul_right _ (by omega))]
          · rw [pkK_sz, ← Array.length_toList, hl3]
            simp only [List.length_append, List.length_take, List.length_drop, Array.length_toList, hcs, hzl, Nat.sub_mul]
            have : ps.length * 3 ≤ c * 3 := Nat.mul_le_mul_right _ q1
            omega
          · rw [pkK_sz, ← hqe, hl3, List.append_assoc, List.take_append_of_le_length (by rw [List.length_take, Array.length_toList, hcs, Nat.min_eq_left (Nat.mul_le_mul_right _ (by omega))]; exact Nat.le_refl _), List.take_take, Nat.min_self]
          · have h := ((hrw.chg HT.out.chg HD'.out).chg C3.out (fun k hk e => HD'.out k hk (.inr e)))
            refine h.mono (fun k hk => ?_)
            rw [HDD.out] at hk
            exact ⟨hk.1, fun e => hk.2.1 e, Nat.lt_of_lt_of_le hk.2.2 (Nat.le_trans HT.out.chg.size C3.out.size)⟩
          · rcases s2 k hk with h | h
            · exact HG2.out (by rw [← e]; exact h)
            · omega
          · rcases s2 k hk with h | h
            · exact .inl h
            · exact .inr ⟨h.1, Nat.lt_of_lt_of_le h.2 C3.out.size⟩
          · refine (HT.out.chg.trans C3.out (fun k hk _ => .inr hk)).mono (fun k hk _ => ?_)
            rcases hk with h | h
            · exact .inl h
            · exact .inr (by rw [h]; rfl)
        have HFIN := hid hfin
        have HQE := hid hqe
        clear hfin hqe hcur hcs hrw s1 s2 hb3 hl3 hi8 hz8 hzl
        go_wp2_with fail
        go_ret
        exact ⟨by rw [← HQE.out]; rfl, HFIN.out⟩

def CutTo (St : (Nat → Prop) → List Pk → World → Prop) (S SP : Nat → Prop) (g : Nat) (asked ps : List Pk) (w w' : World) : Prop :=
  (∃ v', PostAt w' SP g v' ps) ∧ ∃ S', St S' asked w' ∧ (∀ k, S' k → S k ∨ (w.heap.size ≤ k ∧ k < w'.heap.size)) ∧ Chg (fun k => S k ∨ SP k) w w'
set_option maxHeartbeats 4000000 in
theorem cut_any {fn : Nat} {lb : Array Value} {p : Pk → Bool} {St : (Nat → Prop) → List Pk → World → Prop} (hC : Clo fn lb p St) {S SP : Nat → Prop} {asked ps : List Pk} {w : World} {g : Nat} {v : Value} (hs : St S asked w) (hS : ∀ k, S k → k < w.heap.size)
    (h : PostAt w SP g v ps) (hP : ∀ k, SP k → k < w.heap.size) (h1 : ∀ k, SP k → ¬ S k) (hok : ps.length ≤ 4096) (hal : asked.length + ps.length ≤ 5000) (hbig : ∀ x ∈ ps, x.data.length ≤ 65546) :
    Calls Try.prog 32 #[.pointer (some ⟨g, 0, none⟩), .func (.func fn) #[] lb] w fun e w' => e = .returned (.int .i64 ((ps.length : Int) - (fil p ps).length)) ∧ CutTo St S SP g (asked ++ ps) (fil p ps) w w' := by
  have HC := hid hC
  have HS := hid hs
  have HSS := hid hS
  have H := hid h
  have HP := hid hP
  have H1 := hid h1
  have HBIG := hid hbig
  obtain ⟨B, c, hv⟩ := h.vec.form
  subst hv
  obtain ⟨wb, hwb⟩ : ∃ wb, wb = w.alloc (.cells #[.func (.func fn) #[] lb] 63) := ⟨_, rfl⟩
  have CB := hid (show Chg (fun _ => False) w wb by rw [hwb]; exact (Chg.refl _ w).alloc _)
  have BB := hid (show wb.heap[w.heap.size]? = some (.cells #[.func (.func fn) #[] lb] 63 (0, 0)) by rw [hwb]; exact blk_new w _)
  have c0 := h.cell
  have hgb : g < w.heap.size := lt_of_blk h.blk
  have hgb2 : g ≠ w.heap.size := by omega
  have y0 : wb.cell? ⟨g, 0, none⟩ = some (.slice B ps.length c) := CB.out.cell c0 (fun h => h)
  have hfl := fil_le p ps
  have hw : IntKind.i64.wrap ((ps.length : Int) - ((fil p ps).length : Int)) = (ps.length : Int) - ((fil p ps).length : Int) := IntWalk.i64_in _ (by omega)
  have HW := hid hw
  clear hC hs hS h hP h1 hbig hw
  go_enter Try.func32, Try.ntmps32
  go_wp2_with fail
  rw [← hwb]
  clear hwb
  refine (delfunc_any HC.out (S := S) (SP := SP) (DP := fun k => SP k ∧ k ≠ g) (HC.out.chg HS.out CB.out (fun _ _ _ h => h)) (fun k hk => Nat.lt_of_lt_of_le (HSS.out k hk) CB.out.size) (H.out.vec.chg CB.out (fun _ _ h => h) (fun _ _ _ _ h => h)) H1.out (fun k hk => H1.out k hk.1) hok hal HBIG.out (by rw [cellAt BB.out]; rfl) (fun h => by have := HSS.out _ h; omega) (fun h => by have := HP.out _ h; omega)).mono ?_
  rintro e w3 ⟨rfl, h3⟩
  obtain ⟨hV, S', k1, k2, k3⟩ := h3
  have HV := hid hV
  have HK1 := hid k1
  have HK2 := hid k2
  have HK3 := hid k3
  have hbg := k3.blk (CB.out.blk H.out.blk (fun h => h)) (fun h => by
    rcases h with h | h
    · exact H1.out g H.out.inS h
    · exact H.out.ne (by cases B <;> exact h))
  have z0 : w3.cell? ⟨g, 0, none⟩ = some (.slice B ps.length c) := by rw [cellAt hbg]; rfl
  have f0 := freeAt hbg 0
  have HBG := hid hbg
  clear hV k1 k2 k3 hbg c0 y0
  go_wp2_with fail
  go_ret
  have hs : Chg (fun k => k = g) w3 (w3.setCell ⟨g, 0, none⟩ (.slice B (fil p ps).length c)) := (Chg.refl (fun k => k = g) w3).set (fun _ => rfl) _
  have hbound : ∀ k, S' k → S k ∨ (w.heap.size ≤ k ∧ k < w3.heap.size) := fun k hk => by
    rcases HK2.out k hk with q | q
    · exact .inl q
    · exact .inr ⟨Nat.le_trans CB.out.size q.1, q.2⟩
  refine ⟨rfl, ⟨_, H.out.inS, blk_set HBG.out 0 _, HV.out.chg hs (fun k hk e => HV.out.ne HBG.out (by decide) (by rw [← e]; exact hk)) (fun k hk _ _ e => hk.2 e)⟩, S', HC.out.chg HK1.out hs (fun k hk _ e => ?_), fun k hk => ?_, ?_⟩
  · rcases hbound k hk with q | q
    · exact H1.out g H.out.inS (by rw [← e]; exact q)
    · omega
  · rcases hbound k hk with q | q
    · exact .inl q
    · exact .inr ⟨q.1, Nat.lt_of_lt_of_le q.2 hs.size⟩
  · refine ((CB.out.mono (fun _ h _ => h.elim)).trans (HK3.out.mono (S' := fun k => S k ∨ SP k) (fun k hk _ => ?_)) (fun _ h _ => h)).trans hs (fun k hk _ => .inr (by rw [hk]; exact H.out.inS))
    rcases hk with hk | hk
    · exact .inl hk
    · exact .inr (H.out.vec.inS k (by cases B <;> exact hk))
end Go.Proofs.Ytmllakklhbmboaa.Po
