
/- What is read of bytes that were written, and what is written of things that were read: plain data. -/

import Derived.Test.YtcmfgijdelaelaaPackDe

import Derived.Test.YtcmfgijdelaelaaPackDf

import Derived.Test.YtcmfgijdelaelaaPackZb

import Derived.Test.YtcmfgijdelaelaaPackZc

namespace Go.Proofs.Ytcmfgijdelaelaa.Pa

set_option linter.unusedVariables false

set_option linter.unusedSimpArgs false

open Go.Proofs.Ytcmfgijdelaelaa.C

/-- A reader and the bytes that it reads: what it takes is just the thing's bytes, at least so many. -/
structure Reads {α : Type} (L : Nat) (rd : List UInt8 → Option (α × List UInt8)) (wr : α → List UInt8) : Prop where
  back : ∀ {s x s'}, rd s = some (x, s') → s = wr x ++ s'
  least : ∀ {s x s'}, rd s = some (x, s') → L ≤ (wr x).length

theorem rdNum_back {s : List UInt8} {n : Int} {s' : List UInt8} (h : rdNum s = some (n, s')) : s = num n ++ s' := by
  unfold rdNum at h
  split at h
  · cases h
  · rename_i hl
    injection h with h
    injection h with h1 h2
    have h6 : (s.take 6).length = 6 := by rw [List.length_take]; omega
    have hv := val_lt h6
    have e : num n = s.take 6 := by
      unfold num
      rw [← h1, show ((val (s.take 6) : Int) - 1 + 1) = (val (s.take 6) : Int) by omega, Int.emod_eq_of_lt (by omega) (by omega), Int.toNat_natCast]
      exact six_val h6
    rw [e, ← h2, List.take_append_drop]
theorem reads_num : Reads 6 rdNum num := ⟨fun h => rdNum_back h, fun _ => Nat.le_refl _⟩
theorem rdList_back {α : Type} {L : Nat} {rd : List UInt8 → Option (α × List UInt8)} {wr : α → List UInt8} (h : Reads L rd wr) : ∀ {k : Nat} {s : List UInt8} {l : List α} {s' : List UInt8}, rdList rd k s = some (l, s') → s = l.flatMap wr ++ s' ∧ l.length = k ∧ L * k ≤ (l.flatMap wr).length
  | 0, s, l, s', hk => by
    injection hk with hk
    injection hk with h1 h2
    subst h1 h2
    exact ⟨rfl, rfl, by simp⟩
  | k + 1, s, l, s', hk => by
    rw [rdList_succ] at hk
    cases hr : rd s with
    | none => rw [hr] at hk; cases hk
    | some q =>
      obtain ⟨x, t⟩ := q
      rw [hr, Option.bind_some] at hk
      cases hr2 : rdList rd k t with
      | none => simp only [hr2] at hk; cases hk
      | some q2 =>
        obtain ⟨l2, t2⟩ := q2
        simp only [hr2, Option.map_some] at hk
        injection hk with hk
        injection hk with h1 h2
        subst h1 h2
        obtain ⟨i1, i2, i3⟩ := rdList_back h hr2
        have b1 := h.back hr
        have b2 := h.least hr
        refine ⟨by rw [b1, i1, List.flatMap_cons, List.append_assoc], by rw [List.length_cons, i2], ?_⟩
        rw [List.flatMap_cons, List.length_append, Nat.mul_add]
        omega
theorem rdCountL_back {L : Nat} {s : List UInt8} {q : Nat} {s' : List UInt8} (h : rdCountL L s = some (q, s')) : s = num q ++ s' := by
  unfold rdCountL at h
  cases hr : rdNum s with
  | none => rw [hr] at h; cases h
  | some r =>
    obtain ⟨n, t⟩ := r
    rw [hr, Option.bind_some] at h
    split at h
    · cases h
    · rename_i hc
      injection h with h
      injection h with h1 h2
      subst h1 h2
      rw [rdNum_back hr, Int.toNat_of_nonneg (by omega)]
theorem reads_seq {α : Type} {L : Nat} {rd : List UInt8 → Option (α × List UInt8)} {wr : α → List UInt8} (h : Reads L rd wr) (K : Nat) : Reads 6 (rdSeq K rd) (fun l => num (l.length : Nat) ++ l.flatMap wr) := by
  have key : ∀ {s : List UInt8} {l : List α} {s' : List UInt8}, rdSeq K rd s = some (l, s') → s = num (l.length : Nat) ++ l.flatMap wr ++ s' := by
    intro s l s' hs
    unfold rdSeq at hs
    cases hc : rdCountL K s with
    | none => rw [hc] at hs; cases hs
    | some r =>
      obtain ⟨q, t⟩ := r
      rw [hc, Option.bind_some] at hs
      obtain ⟨i1, i2, _⟩ := rdList_back h hs
      have e := rdCountL_back hc
      simp only at i1 i2
      rw [e, ← i2, List.append_assoc, ← i1]
  exact ⟨key, fun _ => by rw [List.length_append, num_len]; omega⟩
theorem seq_least {α : Type} {L : Nat} {rd : List UInt8 → Option (α × List UInt8)} {wr : α → List UInt8} (h : Reads L rd wr) (hL : 0 < L) (s : List UInt8) : rdSeq L rd s = rdSeq 1 rd s := by
  unfold rdSeq rdCountL
  cases hr : rdNum s with
  | none => rfl
  | some r =>
    obtain ⟨n, t⟩ := r
    simp only [Option.bind_some, Nat.div_one]
    by_cases h0 : n < 0
    · rw [if_pos (.inl h0), if_pos (.inl h0)]
    · by_cases h1 : (t.length : Int) < n
      · rw [if_pos (show n < 0 ∨ ((t.length / L : Nat) : Int) < n from .inr (by have := Nat.div_le_self t.length L; omega)), if_pos (show n < 0 ∨ (t.length : Int) < n from .inr h1)]
      · rw [if_neg (show ¬ (n < 0 ∨ (t.length : Int) < n) by omega), Option.bind_some]
        by_cases h2 : ((t.length / L : Nat) : Int) < n
        · rw [if_pos (.inr h2), Option.bind_none]
          cases hl : rdList rd n.toNat t with
          | none => rfl
          | some q =>
            exfalso
            obtain ⟨l, t'⟩ := q
            obtain ⟨i1, i2, i3⟩ := rdList_back h hl
            have h3 : L * n.toNat ≤ t.length := by
              have := congrArg List.length i1
              rw [List.length_append] at this
              omega
            have h4 : n.toNat ≤ t.length / L := (Nat.le_div_iff_mul_le hL).2 (by rw [Nat.mul_comm]; exact h3)
            omega
        · rw [if_neg (show ¬ (n < 0 ∨ ((t.length / L : Nat) : Int) < n) by omega), Option.bind_some]
theorem reads_then {α β γ : Type} {L K : Nat} {rd1 : List UInt8 → Option (α × List UInt8)} {rd2 : List UInt8 → Option (β × List UInt8)} {w1 : α → List UInt8} {w2 : β → List UInt8} (h1 : Reads L rd1 w1) (h2 : Reads K rd2 w2) {f : α → β → γ} {wr : γ → List UInt8}
    (hf : ∀ {s x s' y s''}, rd1 s = some (x, s') → rd2 s' = some (y, s'') → wr (f x y) = w1 x ++ w2 y) : Reads (L + K) (thenRd rd1 rd2 f) wr := by
  have key : ∀ {s z s''}, thenRd rd1 rd2 f s = some (z, s'') → ∃ x s' y, rd1 s = some (x, s') ∧ rd2 s' = some (y, s'') ∧ z = f x y := by
    intro s z s'' h
    unfold thenRd at h
    cases hr : rd1 s with
    | none => rw [hr] at h; cases h
    | some q =>
      obtain ⟨x, s'⟩ := q
      rw [hr, Option.bind_some] at h
      cases hr2 : rd2 s' with
      | none => simp only [hr2] at h; cases h
      | some q2 =>
        obtain ⟨y, t⟩ := q2
        simp only [hr2, Option.map_some] at h
        injection h with h
        injection h with e1 e2
        subst e1 e2
        exact ⟨x, s', y, rfl, hr2, rfl⟩
  refine ⟨fun h => ?_, fun h => ?_⟩
  · obtain ⟨x, s', y, e1, e2, rfl⟩ := key h
    rw [hf e1 e2, List.append_assoc, ← h2.back e2, ← h1.back e1]
  · obtain ⟨x, s', y, e1, e2, rfl⟩ := key h
    rw [hf e1 e2, List.length_append]
    have q1 := h1.least e1
    have q2 := h2.least e2
    omega
theorem reads_nums (k : Nat) : Reads (6 * k) (rdList rdNum k) (fun l => l.flatMap num) := ⟨fun h => (rdList_back reads_num h).1, fun h => (rdList_back reads_num h).2.2⟩
theorem nums_k {k : Nat} {s : List UInt8} {l : List Int} {s' : List UInt8} (h : rdList rdNum k s = some (l, s')) : l.length = k := (rdList_back reads_num h).2.1
theorem reads_text : Reads 6 rdText (fun t => num (t.length : Nat) ++ t) := by
  have key : ∀ {s t s' : List UInt8}, rdText s = some (t, s') → s = num (t.length : Nat) ++ t ++ s' := by
    intro s t s' h
    unfold rdText at h
    cases hc : rdCountL 1 s with
    | none => rw [hc] at h; cases h
    | some r =>
      obtain ⟨q, u⟩ := r
      rw [hc, Option.map_some] at h
      injection h with h
      injection h with h1 h2
      have hq : q ≤ u.length := by
        unfold rdCountL at hc
        cases hr : rdNum s with
        | none => rw [hr] at hc; cases hc
        | some r2 =>
          obtain ⟨n, t2⟩ := r2
          rw [hr, Option.bind_some] at hc
          split at hc
          · cases hc
          · rename_i hcc
            injection hc with hc
            injection hc with e1 e2
            subst e1 e2
            rw [Nat.div_one] at hcc
            omega
      subst h1 h2
      rw [List.length_take, Nat.min_eq_left hq, List.append_assoc, List.take_append_drop]
      exact rdCountL_back hc
  exact ⟨key, fun _ => by rw [List.length_append, num_len]; omega⟩
theorem reads_rule : Reads 30 rdRule ruleB := by
  have := reads_then (L := 24) (K := 6) (reads_nums 4) reads_text (f := mkRule) (wr := ruleB) (by
    intro s x s' y s'' h1 h2
    have hk := nums_k h1
    match x, hk with
    | [a, b, c, d], _ =>
      rw [ruleB_eq]
      show List.flatMap num [a, b, c, d] ++ num (bstr y).size ++ bts (bstr y) = _
      rw [bts_bstr, bstr_size, List.append_assoc])
  exact this
theorem rdEntry_eq : rdEntry = rdEntryR := by
  funext s
  unfold rdEntry rdEntryR thenRd
  simp only [seq_least reads_rule (by omega), seq_least reads_num (by omega)]
theorem reads_entry : Reads 54 rdEntry entryB := by
  have q1 := reads_then (L := 42) (K := 6) (reads_nums 7) (reads_seq reads_rule 30) (f := Prod.mk) (wr := fun p => p.1.flatMap num ++ (num (p.2.length : Nat) ++ p.2.flatMap ruleB)) (fun _ _ => rfl)
  have q1k : ∀ {s p s'}, thenRd (rdList rdNum 7) (rdSeq 30 rdRule) Prod.mk s = some (p, s') → p.1.length = 7 := by
    intro s p s' h
    unfold thenRd at h
    cases hr : rdList rdNum 7 s with
    | none => rw [hr] at h; cases h
    | some q =>
      obtain ⟨x, t⟩ := q
      rw [hr, Option.bind_some] at h
      cases hr2 : rdSeq 30 rdRule t with
      | none => simp only [hr2] at h; cases h
      | some q2 =>
        simp only [hr2, Option.map_some] at h
        injection h with h
        injection h with e1 e2
        subst e1
        exact nums_k hr
  have := reads_then (L := 48) (K := 6) q1 (reads_seq reads_num 6) (f := fun q d => mkEntry q.1 q.2 d) (wr := entryB) (by
    intro s x s' y s'' h1 h2
    have hk := q1k h1
    obtain ⟨l, pu⟩ := x
    match l, hk with
    | [a, b, c, d, e, f, g], _ =>
      rw [entryB_eq]
      simp only [mkEntry, Entry.nums, List.append_assoc])
  exact this
theorem rdMsg_eq : rdMsg = rdMsgR := by
  funext s
  unfold rdMsg rdMsgR thenRd
  simp only [seq_least reads_entry (by omega)]
  rw [rdEntry_eq]
theorem rdRec_eq : rdRec = rdRecR := by
  funext s
  unfold rdRec rdRecR thenRd
  simp only [seq_least reads_entry (by omega)]
  rw [rdEntry_eq]
theorem parseMsg_eq (b : List UInt8) : parseMsg b = parseMsgR b := by unfold parseMsg parseMsgR; rw [rdMsg_eq]
theorem parseRec_eq (b : List UInt8) : parseRec b = parseRecR b := by unfold parseRec parseRecR; rw [rdRec_eq]
theorem reads_msg : Reads 48 rdMsg msgB := by
  have := reads_then (L := 42) (K := 6) (reads_nums 7) (reads_seq reads_entry 54) (f := mkMsg) (wr := msgB) (by
    intro s x s' y s'' h1 h2
    have hk := nums_k h1
    match x, hk with
    | [a, b, c, d, e, f, g], _ => rfl)
  exact this
theorem reads_rec : Reads 24 rdRec recB := by
  have := reads_then (L := 18) (K := 6) (reads_nums 3) (reads_seq reads_entry 54) (f := mkRec) (wr := recB) (by
    intro s x s' y s'' h1 h2
    have hk := nums_k h1
    match x, hk with
    | [a, b, c], _ => rfl)
  exact this

/-! ### What is written is read -/
theorem rdCountL_num {L q : Nat} {b : List UInt8} (hq : q ≤ 1000000000000) (h : q ≤ b.length / L) : rdCountL L (num (q : Int) ++ b) = some (q, b) := by
  unfold rdCountL
  rw [rdNum_num (by omega) (by omega), Option.bind_some, if_neg (by simp only; omega)]
  rfl
theorem nums_fwd {l : List Int} (h : ∀ u ∈ l, NumOk u) (b : List UInt8) : rdList rdNum l.length (l.flatMap num ++ b) = some (l, b) := rdList_all (fun x hx b => rdNum_num (h x hx).1 (by have := (h x hx).2; omega) b) b
theorem flatMap_least {α : Type} {wr : α → List UInt8} {L : Nat} {l : List α} (h : ∀ x ∈ l, L ≤ (wr x).length) : L * l.length ≤ (l.flatMap wr).length := by
  induction l with
  | nil => simp
  | cons x l ih =>
    have h1 := h x (List.mem_cons_self ..)
    have h2 := ih (fun y hy => h y (List.mem_cons_of_mem _ hy))
    rw [List.flatMap_cons, List.length_append, List.length_cons, Nat.mul_add]
    omega
theorem seq_fwd {α : Type} {rd : List UInt8 → Option (α × List UInt8)} {wr : α → List UInt8} {L : Nat} (hL : 0 < L) {l : List α} (h : ∀ x ∈ l, ∀ b, rd (wr x ++ b) = some (x, b)) (hl : ∀ x ∈ l, L ≤ (wr x).length) (hn : l.length ≤ 1000000) (b : List UInt8) : rdSeq L rd (num (l.length : Nat) ++ l.flatMap wr ++ b) = some (l, b) := by
  unfold rdSeq
  rw [List.append_assoc, rdCountL_num (by omega) ((Nat.le_div_iff_mul_le hL).2 (by rw [Nat.mul_comm, List.length_append]; have := flatMap_least hl; omega)), Option.bind_some]
  exact rdList_all h b
theorem rule_fwd {r : Rule} (h : RuleOk r) (b : List UInt8) : rdRule (ruleB r ++ b) = some (r, b) := by
  unfold rdRule thenRd
  rw [ruleB_eq, List.append_assoc, List.append_assoc, show (4 : Nat) = r.nums.length from rfl, nums_fwd h.1, Option.bind_some]
  have ht : rdText (num (r.pat.size : Int) ++ (bts r.pat ++ b)) = some (bts r.pat, b) := by
    unfold rdText
    rw [rdCountL_num (by have := h.2; omega) (by rw [Nat.div_one, List.length_append, bts_length]; omega), Option.map_some, ← bts_length, List.take_left, List.drop_left]
  rw [ht, Option.map_some]
  rfl
theorem ruleB_30 (r : Rule) : 30 ≤ (ruleB r).length := by rw [ruleB_len]; omega
theorem entry_fwd {e : Entry} (h : EntryOk e) (b : List UInt8) : rdEntry (entryB e ++ b) = some (e, b) := by
  have q1 : rdSeq 30 rdRule (num (e.put.length : Nat) ++ e.put.flatMap ruleB ++ (num (e.drop.length : Nat) ++ e.drop.flatMap num ++ b)) = some (e.put, num (e.drop.length : Nat) ++ e.drop.flatMap num ++ b) := seq_fwd (by omega) (fun x hx b => rule_fwd (h.put x hx) b) (fun x _ => ruleB_30 x) (by have := h.putl; omega) _
  have q2 : rdSeq 6 rdNum (num (e.drop.length : Nat) ++ e.drop.flatMap num ++ b) = some (e.drop, b) := seq_fwd (by omega) (fun x hx b => rdNum_num (h.drop x hx).1 (by have := (h.drop x hx).2; omega) b) (fun x _ => by rw [num_len]; omega) (by have := h.dropl; omega) _
  unfold rdEntry thenRd
  rw [entryB_eq, show e.nums.flatMap num ++ num (e.put.length : Nat) ++ e.put.flatMap ruleB ++ num (e.drop.length : Nat) ++ e.drop.flatMap num ++ b = e.nums.flatMap num ++ (num (e.put.length : Nat) ++ e.put.flatMap ruleB ++ (num (e.drop.length : Nat) ++ e.drop.flatMap num ++ b)) by simp only [List.append_assoc], show (7 : Nat) = e.nums.length from rfl, nums_fwd h.nums, Option.bind_some, q1, Option.map_some, Option.bind_some, q2, Option.map_some]
  rfl
theorem entryB_54 (e : Entry) : 54 ≤ (entryB e).length := by
  rw [entryB_eq]
  simp only [List.length_append, num_len]
  have h3 : (e.nums.flatMap num).length = 42 := by rw [flatMap_num_len]; rfl
  omega
theorem log_fwd {l : List Entry} (h : ∀ e ∈ l, EntryOk e) (hl : l.length ≤ 100) (b : List UInt8) : rdSeq 54 rdEntry (logB l ++ b) = some (l, b) := seq_fwd (by omega) (fun x hx b => entry_fwd (h x hx) b) (fun x _ => entryB_54 x) (by omega) b
theorem msg_fwd {m : Msg} (h : MsgOk m) (b : List UInt8) : rdMsg (msgB m ++ b) = some (m, b) := by
  unfold rdMsg thenRd msgB
  rw [List.append_assoc, show (7 : Nat) = m.nums.length from rfl, nums_fwd h.nums, Option.bind_some, log_fwd h.log h.len, Option.map_some]
  rfl
theorem rec_fwd {m : Rec} (h : RecOk m) (b : List UInt8) : rdRec (recB m ++ b) = some (m, b) := by
  unfold rdRec thenRd recB
  rw [List.append_assoc, show (3 : Nat) = m.nums.length from rfl, nums_fwd h.nums, Option.bind_some, log_fwd h.log h.len, Option.map_some]
  rfl

/-! ### The laws -/
theorem parseMsg_bytes {m : Msg} (h : msgR m = true) (hl : (msgB m).length ≤ 65536) : parseMsg (msgB m) = some m := by
  unfold parseMsg
  have := msg_fwd (msgR_ok h) []
  rw [List.append_nil] at this
  rw [this, Option.bind_some, if_pos ⟨rfl, hl, h⟩]
theorem parseMsg_back {b : List UInt8} {m : Msg} (h : parseMsg b = some m) : msgB m = b ∧ msgR m = true ∧ b.length ≤ 65536 := by
  unfold parseMsg at h
  cases hr : rdMsg b with
  | none => rw [hr] at h; cases h
  | some q =>
    obtain ⟨x, t⟩ := q
    rw [hr, Option.bind_some] at h
    split at h
    · rename_i hc
      injection h with h
      simp only at h
      subst h
      have e := (reads_msg).back hr
      have e1 : t = [] := hc.1
      rw [e1, List.append_nil] at e
      exact ⟨e.symm, hc.2.2, hc.2.1⟩
    · cases h
theorem msgB_inj {m m' : Msg} (h : msgR m = true) (h' : msgR m' = true) (e : msgB m = msgB m') : m = m' := by
  have q1 := msg_fwd (msgR_ok h) []
  have q2 := msg_fwd (msgR_ok h') []
  rw [e, q2] at q1
  injection q1 with q1
  injection q1 with q1 _
  exact q1.symm
theorem parseMsg_cut {m : Msg} (h : msgR m = true) {k : Nat} (hk : k < (msgB m).length) : parseMsg ((msgB m).take k) = none := by
  cases hp : parseMsg ((msgB m).take k) with
  | none => rfl
  | some m' =>
    exfalso
    obtain ⟨e1, e2, _⟩ := parseMsg_back hp
    have q1 := msg_fwd (msgR_ok h) []
    have q2 := msg_fwd (msgR_ok e2) ((msgB m).drop k)
    rw [e1, List.take_append_drop] at q2
    rw [List.append_nil, q2] at q1
    injection q1 with q1
    injection q1 with _ q1
    have := congrArg List.length q1
    rw [List.length_drop] at this
    have e0 : ([] : List UInt8).length = 0 := rfl
    omega
theorem parseMsg_more {m : Msg} (h : msgR m = true) {b : List UInt8} (hb : 0 < b.length) : parseMsg (msgB m ++ b) = none := by
  unfold parseMsg
  rw [msg_fwd (msgR_ok h) b, Option.bind_some, if_neg]
  rintro ⟨h1, _⟩
  simp only at h1
  subst h1
  simp at hb
theorem parseRec_bytes {m : Rec} (h : recR m = true) (hl : (recB m).length ≤ 65536) : parseRec (recB m) = some m := by
  unfold parseRec
  have := rec_fwd (recR_ok h) []
  rw [List.append_nil] at this
  rw [this, Option.bind_some, if_pos ⟨rfl, hl, h⟩]
theorem parseRec_back {b : List UInt8} {m : Rec} (h : parseRec b = some m) : recB m = b ∧ recR m = true ∧ b.length ≤ 65536 := by
  unfold parseRec at h
  cases hr : rdRec b with
  | none => rw [hr] at h; cases h
  | some q =>
    obtain ⟨x, t⟩ := q
    rw [hr, Option.bind_some] at h
    split at h
    · rename_i hc
      injection h with h
      simp only at h
      subst h
      have e := (reads_rec).back hr
      have e1 : t = [] := hc.1
      rw [e1, List.append_nil] at e
      exact ⟨e.symm, hc.2.2, hc.2.1⟩
    · cases h
theorem recB_inj {m m' : Rec} (h : recR m = true) (h' : recR m' = true) (e : recB m = recB m') : m = m' := by
  have q1 := rec_fwd (recR_ok h) []
  have q2 := rec_fwd (recR_ok h') []
  rw [e, q2] at q1
  injection q1 with q1
  injection q1 with q1 _
  exact q1.symm
theorem parseRec_cut {m : Rec} (h : recR m = true) {k : Nat} (hk : k < (recB m).length) : parseRec ((recB m).take k) = none := by
  cases hp : parseRec ((recB m).take k) with
  | none => rfl
  | some m' =>
    exfalso
    obtain ⟨e1, e2, _⟩ := parseRec_back hp
    have q1 := rec_fwd (recR_ok h) []
    have q2 := rec_fwd (recR_ok e2) ((recB m).drop k)
    rw [e1, List.take_append_drop] at q2
    rw [List.append_nil, q2] at q1
    injection q1 with q1
    injection q1 with _ q1
    have := congrArg List.length q1
    rw [List.length_drop] at this
    have e0 : ([] : List UInt8).length = 0 := rfl
    omega
theorem parseRec_more {m : Rec} (h : recR m = true) {b : List UInt8} (hb : 0 < b.length) : parseRec (recB m ++ b) = none := by
  unfold parseRec
  rw [rec_fwd (recR_ok h) b, Option.bind_some, if_neg]
  rintro ⟨h1, _⟩
  simp only at h1
  subst h1
  simp at hb
end Go.Proofs.Ytcmfgijdelaelaa.Pa
