/- Frames as plain data: what a frame is, what is read of bytes, and the plain laws of both. No program here. -/
namespace Go.Proofs.Ytodbaadcpgkbdaa.FrameP
set_option linter.unusedVariables false

def step (s : Nat × Nat) (c : UInt8) : Nat × Nat := ((s.1 + c.toNat) % 65521, (s.2 + (s.1 + c.toNat) % 65521) % 65521)
def sums (l : List UInt8) : Nat × Nat := l.foldl step (1, 0)
def sum (l : List UInt8) : Nat := (sums l).2 * 65536 + (sums l).1
theorem sums_nil : sums [] = (1, 0) := rfl
theorem sums_snoc (l : List UInt8) (c : UInt8) : sums (l ++ [c]) = step (sums l) c := by simp [sums]
theorem sums_lt (l : List UInt8) : (sums l).1 < 65521 ∧ (sums l).2 < 65521 := by
  rcases List.eq_nil_or_concat l with h | ⟨l', c, h⟩
  · subst h; exact ⟨by decide, by decide⟩
  · rw [List.concat_eq_append] at h
    subst h
    rw [sums_snoc]
    exact ⟨Nat.mod_lt _ (by decide), Nat.mod_lt _ (by decide)⟩
theorem sum_lt (l : List UInt8) : sum l < 4294967296 := by have := sums_lt l; unfold sum; omega

def byte (n : Nat) : UInt8 := UInt8.ofNat n
theorem byte_toNat (n : Nat) : (byte n).toNat = n % 256 := by simp [byte]
def num4 (n : Nat) : List UInt8 := [byte (n / 16777216), byte (n / 65536), byte (n / 256), byte n]
def four (l : List UInt8) : Nat := ((((l.getD 0 0).toNat * 256 + (l.getD 1 0).toNat) * 256 + (l.getD 2 0).toNat) * 256) + (l.getD 3 0).toNat
theorem four_num4 (n : Nat) (h : n < 4294967296) (r : List UInt8) : four (num4 n ++ r) = n := by
  simp only [four, num4, List.cons_append, List.getD_cons_zero, List.getD_cons_succ, byte_toNat]
  omega
theorem num4_length (n : Nat) : (num4 n).length = 4 := rfl

def frame (body : List UInt8) : List UInt8 := [67, 70] ++ num4 body.length ++ num4 (sum body) ++ body
theorem frame_length (body : List UInt8) : (frame body).length = 10 + body.length := by simp [frame, num4_length]; omega

/-- An error's number (0: none), and the body. -/
def read (b : List UInt8) : Nat × List UInt8 :=
  if b.length < 10 then (11, []) else if b.getD 0 0 ≠ 67 ∨ b.getD 1 0 ≠ 70 then (10, [])
  else if 65536 < four (b.drop 2) then (12, []) else if b.length - 10 < four (b.drop 2) then (11, [])
  else if four (b.drop 6) ≠ sum ((b.drop 10).take (four (b.drop 2))) then (15, []) else (0, (b.drop 10).take (four (b.drop 2)))
theorem read_len {b l : List UInt8} (h : read b = (0, l)) : 10 + l.length ≤ b.length ∧ l.length ≤ 65536 ∧ l = (b.drop 10).take l.length := by
  unfold read at h
  split at h
  · simp at h
  · split at h
    · simp at h
    · split at h
      · simp at h
      · split at h
        · simp at h
        · split at h
          · simp at h
          · rename_i h1 _ h2 h3 _
            simp only [Prod.mk.injEq, true_and] at h
            subst h
            have : ((b.drop 10).take (four (b.drop 2))).length = four (b.drop 2) := by rw [List.length_take, List.length_drop]; omega
            rw [this]
            exact ⟨by omega, by omega, rfl⟩
theorem read_err {b : List UInt8} {e : Nat} {l : List UInt8} (h : read b = (e, l)) (he : e ≠ 0) : l = [] := by
  unfold read at h
  repeat (first | (split at h) | (simp only [Prod.mk.injEq] at h; exact h.2.symm) | (simp only [Prod.mk.injEq] at h; exact absurd h.1.symm he))
theorem read_frame (body r : List UInt8) (h : body.length ≤ 65536) : read (frame body ++ r) = (0, body) := by
  have hl : (frame body ++ r).length = 10 + body.length + r.length := by rw [List.length_append, frame_length]
  have h2 : (frame body ++ r).drop 2 = num4 body.length ++ (num4 (sum body) ++ body ++ r) := by simp [frame]
  have h6 : (frame body ++ r).drop 6 = num4 (sum body) ++ (body ++ r) := by simp [frame, num4]
  have h10 : (frame body ++ r).drop 10 = body ++ r := by simp [frame, num4]
  have f2 : four ((frame body ++ r).drop 2) = body.length := by rw [h2]; exact four_num4 _ (by omega) _
  have f6 : four ((frame body ++ r).drop 6) = sum body := by rw [h6]; exact four_num4 _ (sum_lt _) _
  unfold read
  rw [if_neg (by omega), if_neg (by simp [frame]), f2, if_neg (by omega), if_neg (by omega), f6, h10, List.take_left, if_neg (by simp)]

/-- All bodies up to the first error, and how many bytes they take. -/
def scan (b : List UInt8) : List (List UInt8) × Nat :=
  match h : read b with
  | (0, l) => let r := scan (b.drop (10 + l.length)); (l :: r.1, 10 + l.length + r.2)
  | _ => ([], 0)
termination_by b.length
decreasing_by
  have := (read_len h).1
  simp only [List.length_drop]
  omega
theorem scan_ok {b l : List UInt8} (h : read b = (0, l)) : scan b = (l :: (scan (b.drop (10 + l.length))).1, 10 + l.length + (scan (b.drop (10 + l.length))).2) := by
  rw [scan]
  split
  · rename_i l' h'
    rw [h] at h'
    simp only [Prod.mk.injEq, true_and] at h'
    subst h'
    rfl
  · rename_i hn
    exact absurd h (hn l)
theorem scan_no {b l : List UInt8} {e : Nat} (h : read b = (e, l)) (he : e ≠ 0) : scan b = ([], 0) := by
  rw [scan]
  split
  · rename_i l' h'
    rw [h] at h'
    simp only [Prod.mk.injEq] at h'
    exact absurd h'.1 he
  · rfl
theorem scan_le (b : List UInt8) : (scan b).2 ≤ b.length := by
  induction hn : b.length using Nat.strongRecOn generalizing b with
  | _ n ih =>
    rcases hr : read b with ⟨e, l⟩
    by_cases he : e = 0
    · subst he
      have := read_len hr
      rw [scan_ok hr]
      have h2 := ih (b.drop (10 + l.length)).length (by rw [List.length_drop]; omega) _ rfl
      rw [List.length_drop] at h2
      show 10 + l.length + _ ≤ n
      omega
    · rw [scan_no hr he]; exact Nat.zero_le _
/-- Whole frames in a row, and what stands behind them. -/
theorem scan_frames : ∀ (bs : List (List UInt8)) (r : List UInt8), (∀ x ∈ bs, x.length ≤ 65536) → scan ((bs.map frame).flatten ++ r) = (bs ++ (scan r).1, ((bs.map frame).flatten).length + (scan r).2)
  | [], r, _ => by simp
  | x :: bs, r, h => by
    have e : ((x :: bs).map frame).flatten ++ r = frame x ++ ((bs.map frame).flatten ++ r) := by simp
    rw [e, scan_ok (read_frame x _ (h x (by simp)))]
    have e2 : (frame x ++ ((bs.map frame).flatten ++ r)).drop (10 + x.length) = (bs.map frame).flatten ++ r := by rw [← frame_length, List.drop_left]
    rw [e2, scan_frames bs r (fun y hy => h y (by simp [hy]))]
    simp [frame_length]
    omega
/-- A frame that is cut off is none. -/
theorem read_cut (body : List UInt8) (k : Nat) (h : body.length ≤ 65536) (hk : k < (frame body).length) : ∃ e, e ≠ 0 ∧ read ((frame body).take k) = (e, []) := by
  rw [frame_length] at hk
  have hl : ((frame body).take k).length = k := by rw [List.length_take, frame_length]; omega
  by_cases h10 : k < 10
  · exact ⟨11, by decide, by unfold read; rw [hl, if_pos h10]⟩
  · have ef : frame body = ([67, 70] ++ num4 body.length) ++ (num4 (sum body) ++ body) := by simp [frame]
    have hp : ([67, 70] ++ num4 body.length : List UInt8).length = 6 := rfl
    have et : (frame body).take k = [67, 70] ++ (num4 body.length ++ (num4 (sum body) ++ body).take (k - 6)) := by
      rw [ef, List.take_append, hp, List.take_of_length_le (by rw [hp]; omega), List.append_assoc]
    have h2 : ((frame body).take k).drop 2 = num4 body.length ++ ((num4 (sum body) ++ body).take (k - 6)) := by rw [et]; rfl
    have f2 : four (((frame body).take k).drop 2) = body.length := by rw [h2]; exact four_num4 _ (by omega) _
    have g0 : ((frame body).take k).getD 0 0 = 67 ∧ ((frame body).take k).getD 1 0 = 70 := by rw [et]; exact ⟨rfl, rfl⟩
    refine ⟨11, by decide, ?_⟩
    unfold read
    rw [hl, if_neg h10, if_neg (by rw [g0.1, g0.2]; simp), f2, if_neg (by omega), if_pos (by omega)]
theorem read_nil : read [] = (11, []) := rfl

theorem sums_mod (l : List UInt8) : (sums l).1 = (1 + (l.map (·.toNat)).sum) % 65521 := by
  induction hn : l.length generalizing l with
  | zero => obtain rfl := List.eq_nil_of_length_eq_zero hn; rfl
  | succ n ih =>
    rcases List.eq_nil_or_concat l with h | ⟨l', c, h⟩
    · subst h; simp at hn
    · rw [List.concat_eq_append] at h
      subst h
      have hn' : l'.length = n := by simpa using hn
      rw [sums_snoc, step, ih l' hn']
      simp only [List.map_append, List.sum_append, List.map_cons, List.map_nil, List.sum_cons, List.sum_nil]
      omega
theorem sum_set {l : List UInt8} {i : Nat} {c d : UInt8} (hi : l[i]? = some c) (hcd : c ≠ d) : sum (l.set i d) ≠ sum l := by
  have hne : (sums (l.set i d)).1 ≠ (sums l).1 := by
    rw [sums_mod, sums_mod]
    have hl : i < l.length := by
      rcases Nat.lt_or_ge i l.length with h | h
      · exact h
      · rw [List.getElem?_eq_none h] at hi; cases hi
    have e1 : l = l.take i ++ c :: l.drop (i + 1) := by
      rw [List.getElem?_eq_getElem hl] at hi
      injection hi with hi
      rw [← hi, ← List.drop_eq_getElem_cons hl, List.take_append_drop]
    have e2 : l.set i d = l.take i ++ d :: l.drop (i + 1) := List.set_eq_take_append_cons_drop .. ▸ by rw [if_pos hl]
    have s1 : (l.map (·.toNat)).sum = ((l.take i).map (·.toNat)).sum + (c.toNat + ((l.drop (i + 1)).map (·.toNat)).sum) := by
      conv => lhs; rw [e1]
      simp
    have s2 : ((l.set i d).map (·.toNat)).sum = ((l.take i).map (·.toNat)).sum + (d.toNat + ((l.drop (i + 1)).map (·.toNat)).sum) := by rw [e2]; simp
    rw [s1, s2]
    have hc := c.toNat_lt
    have hd := d.toNat_lt
    have hne' : c.toNat ≠ d.toNat := fun h => hcd (UInt8.toNat_inj.1 h)
    omega
  intro h
  have h1 := sums_lt (l.set i d)
  have h2 := sums_lt l
  unfold sum at h
  omega
theorem four_set (n : Nat) (hn : n < 4294967296) (i : Nat) (h4 : i < 4) (c d : UInt8) (hc : (num4 n)[i]? = some c) (hcd : c ≠ d) (r : List UInt8) : four ((num4 n).set i d ++ r) ≠ n := by
  have hne : c.toNat ≠ d.toNat := fun h => hcd (UInt8.toNat_inj.1 h)
  have hd := d.toNat_lt
  have hi : i = 0 ∨ i = 1 ∨ i = 2 ∨ i = 3 := by omega
  rcases hi with rfl | rfl | rfl | rfl
  · have e : byte (n / 16777216) = c := by simpa [num4] using hc
    rw [← e, byte_toNat] at hne
    have : four ((num4 n).set 0 d ++ r) = ((d.toNat * 256 + n / 65536 % 256) * 256 + n / 256 % 256) * 256 + n % 256 := by simp [four, num4, byte_toNat]
    omega
  · have e : byte (n / 65536) = c := by simpa [num4] using hc
    rw [← e, byte_toNat] at hne
    have : four ((num4 n).set 1 d ++ r) = ((n / 16777216 % 256 * 256 + d.toNat) * 256 + n / 256 % 256) * 256 + n % 256 := by simp [four, num4, byte_toNat]
    omega
  · have e : byte (n / 256) = c := by simpa [num4] using hc
    rw [← e, byte_toNat] at hne
    have : four ((num4 n).set 2 d ++ r) = ((n / 16777216 % 256 * 256 + n / 65536 % 256) * 256 + d.toNat) * 256 + n % 256 := by simp [four, num4, byte_toNat]
    omega
  · have e : byte n = c := by simpa [num4] using hc
    rw [← e, byte_toNat] at hne
    have : four ((num4 n).set 3 d ++ r) = ((n / 16777216 % 256 * 256 + n / 65536 % 256) * 256 + n / 256 % 256) * 256 + d.toNat := by simp [four, num4, byte_toNat]
    omega
/-- One byte behind the length that is turned is found. -/
theorem read_turned (body : List UInt8) (i : Nat) (c d : UInt8) (h : body.length ≤ 65536) (hi : (frame body)[6 + i]? = some c) (hcd : c ≠ d) : read ((frame body).set (6 + i) d) = (15, []) := by
  have hfl : 6 + i < 10 + body.length := by
    rw [← frame_length]
    rcases Nat.lt_or_ge (6 + i) (frame body).length with h | h
    · exact h
    · rw [List.getElem?_eq_none h] at hi; cases hi
  have hl : ((frame body).set (6 + i) d).length = 10 + body.length := by rw [List.length_set, frame_length]
  have ef : frame body = ([67, 70] ++ num4 body.length) ++ (num4 (sum body) ++ body) := by simp [frame]
  have hp : ([67, 70] ++ num4 body.length : List UInt8).length = 6 := rfl
  have es : (frame body).set (6 + i) d = ([67, 70] ++ num4 body.length) ++ (num4 (sum body) ++ body).set i d := by
    rw [ef, List.set_append_right _ _ (by rw [hp]; omega), hp, Nat.add_sub_cancel_left]
  have ei : (num4 (sum body) ++ body)[i]? = some c := by
    rw [ef, List.getElem?_append_right (by rw [hp]; omega), hp, Nat.add_sub_cancel_left] at hi
    exact hi
  have h2 : ((frame body).set (6 + i) d).drop 2 = num4 body.length ++ (num4 (sum body) ++ body).set i d := by rw [es]; simp
  have f2 : four (((frame body).set (6 + i) d).drop 2) = body.length := by rw [h2]; exact four_num4 _ (by omega) _
  have h6 : ((frame body).set (6 + i) d).drop 6 = (num4 (sum body) ++ body).set i d := by rw [es]; simp [num4]
  have hne : four (((frame body).set (6 + i) d).drop 6) ≠ sum ((((frame body).set (6 + i) d).drop 10).take body.length) := by
    have h10 : ((frame body).set (6 + i) d).drop 10 = (((frame body).set (6 + i) d).drop 6).drop 4 := by rw [List.drop_drop]
    rw [h10, h6]
    by_cases h4 : i < 4
    · rw [List.set_append_left _ _ (by rw [num4_length]; exact h4)]
      have e4 : ((num4 (sum body)).set i d ++ body).drop 4 = body := by
        have : ((num4 (sum body)).set i d).length = 4 := by rw [List.length_set, num4_length]
        rw [← this, List.drop_left]
      rw [e4, List.take_length]
      rw [List.getElem?_append_left (by rw [num4_length]; exact h4)] at ei
      exact four_set _ (sum_lt body) i h4 c d ei hcd _
    · rw [List.set_append_right _ _ (by rw [num4_length]; omega), num4_length]
      have e4 : (num4 (sum body) ++ body.set (i - 4) d).drop 4 = body.set (i - 4) d := by rw [← num4_length (sum body), List.drop_left]
      rw [e4, List.take_of_length_le (by rw [List.length_set]; exact Nat.le_refl _), four_num4 _ (sum_lt _)]
      rw [List.getElem?_append_right (by rw [num4_length]; omega), num4_length] at ei
      exact fun h => sum_set ei hcd h.symm
  unfold read
  rw [hl, if_neg (by omega), if_neg (by rw [es]; simp), f2, if_neg (by omega), if_neg (by omega), if_pos hne]

end Go.Proofs.Ytodbaadcpgkbdaa.FrameP
