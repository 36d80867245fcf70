/- The law's own twin of the tape, as plain data, and that its steps are those of the tape. -/
import Derived.Test.YtmllakklhbmboaaTapeA
import Derived.Test.YtmllakklhbmboaaTapeD
namespace Go.Proofs.Ytmllakklhbmboaa.T
set_option linter.unusedVariables false
set_option linter.unusedSimpArgs false
open Go.RowKit Go.Proofs.Ytmllakklhbmboaa.C

structure TW where
  safe : List UInt8
  loose : List UInt8
  room : Int
  left : Int
  armed : Bool
  down : Bool

def TW.falls (t : TW) : TW × Bool :=
  if t.armed = true ∧ t.left = 0 then ({ t with down := true, armed := false }, true) else if t.armed = true then ({ t with left := t.left - 1 }, false) else (t, false)
def TW.loosed (t : TW) (kind : Int) (l : List UInt8) : TW := if kind = 1 then { t with loose := t.loose ++ l } else t
def TW.ended (t : TW) (kind n : Int) (all : List UInt8) : TW :=
  if kind = 2 then { t with safe := all, loose := [] } else if kind = 3 then { t with safe := all.take n.toNat, loose := [] } else t
def TW.step (t : TW) (kind n : Int) (l : List UInt8) : TW × Int :=
  if kind = 4 then ({ t with armed := decide (0 ≤ n), left := n }, 0)
  else if kind = 5 then ({ t with safe := t.safe ++ turned (t.loose.take (min (max n 0) t.loose.length).toNat) l, loose := [], armed := false, down := false }, 0)
  else if kind < 1 ∨ 5 < kind then (t, 0)
  else if t.down = true then (t, 40)
  else if kind = 1 ∧ t.room - (t.safe ++ t.loose).length < l.length then (t, 41)
  else if kind = 3 ∧ (n < 0 ∨ ((t.safe ++ t.loose).length : Int) < n) then (t, 13)
  else if t.falls.2 = true then (t.falls.1.loosed kind l, 40)
  else ((t.falls.1.loosed kind l).ended kind n (t.safe ++ t.loose), 0)

/-- The twin stands for the tape. -/
structure Twin (T : TS) (t : TW) : Prop where
  b : T.b = t.safe ++ t.loose
  safe : T.safe = t.safe.length
  room : T.room = t.room
  left : T.left = if t.armed = true then t.left else -1
  pos : t.armed = true → 0 ≤ t.left
  down : T.down = t.down

theorem twin_step {T : TS} {t : TW} (h : Twin T t) (hok : T.Ok) (kind n : Int) (l : List UInt8) : Twin (T.does kind n l).1 (t.step kind n l).1 ∧ (T.does kind n l).2 = (t.step kind n l).2 := by
  obtain ⟨hb, hs, hr, hl, hp, hd⟩ := h
  obtain ⟨b, s, r, lf, dn⟩ := T
  obtain ⟨ts, tl, tr, tlf, ta, td⟩ := t
  simp only at hb hs hr hl hp hd
  subst hb hs hr hd
  by_cases k4 : kind = 4
  · subst k4
    have e : (TS.does ⟨ts ++ tl, ts.length, r, lf, dn⟩ 4 n l) = ({ (⟨ts ++ tl, ts.length, r, lf, dn⟩ : TS) with left := mx n (-1) }, 0) := rfl
    rw [e]
    refine ⟨⟨rfl, rfl, rfl, ?_, ?_, rfl⟩, rfl⟩
    · show mx n (-1) = if decide (0 ≤ n) = true then n else -1
      rw [mx_eq]
      split <;> simp_all <;> omega
    · intro h; simpa [TW.step] using h
  by_cases k5 : kind = 5
  · subst k5
    have e : (TS.does ⟨ts ++ tl, ts.length, r, lf, dn⟩ 5 n l) = ((⟨ts ++ tl, ts.length, r, lf, dn⟩ : TS).crash n l, 0) := rfl
    have e2 : (TW.step ⟨ts, tl, r, tlf, ta, dn⟩ 5 n l) = (⟨ts ++ turned (tl.take (min (max n 0) tl.length).toNat) l, [], r, tlf, false, false⟩, 0) := rfl
    have q1 : ((ts.length : Int)).toNat = ts.length := by omega
    have q2 : (min (max n 0) (((ts ++ tl).length : Int) - (ts.length : Int))).toNat = (min (max n 0) (tl.length : Int)).toNat := by rw [List.length_append]; congr 2; omega
    have q3 : (min (max n 0) (tl.length : Int)).toNat ≤ tl.length := by omega
    rw [e, e2]
    refine ⟨⟨?_, ?_, rfl, rfl, fun h => by simp at h, rfl⟩, rfl⟩
    · simp only [TS.crash, q1, q2, List.take_left, List.append_nil]
      congr 2
      rw [List.take_append, List.take_of_length_le (by omega), List.drop_left]
      congr 1
      omega
    · simp only [TS.crash, q1, q2]
      rw [List.length_append, turned_length, List.length_take]
      omega
  by_cases k0 : kind < 1 ∨ 5 < kind
  · have e : (TS.does ⟨ts ++ tl, ts.length, r, lf, dn⟩ kind n l) = (⟨ts ++ tl, ts.length, r, lf, dn⟩, 0) := by
      simp [TS.does, show kind ≠ 1 by omega, show kind ≠ 2 by omega, show kind ≠ 3 by omega, k4, k5]
    have e2 : (TW.step ⟨ts, tl, r, tlf, ta, dn⟩ kind n l) = (⟨ts, tl, r, tlf, ta, dn⟩, 0) := by
      simp only [TW.step, if_neg k4, if_neg k5, if_pos k0]
    rw [e, e2]
    exact ⟨⟨rfl, rfl, rfl, hl, hp, rfl⟩, rfl⟩
  have k123 : kind = 1 ∨ kind = 2 ∨ kind = 3 := by omega
  have hstep : (TW.step ⟨ts, tl, r, tlf, ta, dn⟩ kind n l) = if dn = true then (⟨ts, tl, r, tlf, ta, dn⟩, 40) else if kind = 1 ∧ r - (ts ++ tl).length < l.length then (⟨ts, tl, r, tlf, ta, dn⟩, 41) else if kind = 3 ∧ (n < 0 ∨ ((ts ++ tl).length : Int) < n) then (⟨ts, tl, r, tlf, ta, dn⟩, 13)
      else if (TW.falls ⟨ts, tl, r, tlf, ta, dn⟩).2 = true then ((TW.falls ⟨ts, tl, r, tlf, ta, dn⟩).1.loosed kind l, 40) else (((TW.falls ⟨ts, tl, r, tlf, ta, dn⟩).1.loosed kind l).ended kind n (ts ++ tl), 0) := by
    simp only [TW.step, if_neg k4, if_neg k5, if_neg k0]
  cases dn with
  | true =>
    rw [hstep, if_pos rfl]
    have e : (TS.does ⟨ts ++ tl, ts.length, r, lf, true⟩ kind n l) = (⟨ts ++ tl, ts.length, r, lf, true⟩, 40) := by
      rcases k123 with rfl | rfl | rfl <;> rfl
    rw [e]
    exact ⟨⟨rfl, rfl, rfl, hl, hp, rfl⟩, rfl⟩
  | false =>
    have hfall : ∃ tlf' ta' fell, TW.falls ⟨ts, tl, r, tlf, ta, false⟩ = (⟨ts, tl, r, tlf', ta', fell⟩, fell) ∧ (lf == 0) = fell ∧ mx (lf - 1) (-1) = (if ta' = true then tlf' else -1) ∧ (ta' = true → 0 ≤ tlf') := by
      cases ta with
      | false =>
        simp at hl
        subst hl
        exact ⟨tlf, false, false, by simp [TW.falls], by rfl, by simp [mx], fun h => by simp at h⟩
      | true =>
        simp at hl hp
        subst hl
        by_cases h0 : lf = 0
        · subst h0
          exact ⟨0, false, true, by simp [TW.falls], by rfl, by simp [mx], fun h => by simp at h⟩
        · refine ⟨lf - 1, true, false, by simp [TW.falls, h0], by simpa using h0, ?_, fun _ => by omega⟩
          rw [mx_eq]
          simp
          omega
    obtain ⟨tlf', ta', fell, hf, hz, hm, hp'⟩ := hfall
    rw [if_neg (by simp), hf] at hstep
    simp only at hstep
    rcases k123 with rfl | rfl | rfl
    · have e : (TS.does ⟨ts ++ tl, ts.length, r, lf, false⟩ 1 n l) = TS.append ⟨ts ++ tl, ts.length, r, lf, false⟩ l := rfl
      rw [e]
      by_cases hr : r - (ts ++ tl).length < l.length
      · rw [if_pos ⟨rfl, hr⟩] at hstep
        have e1 : TS.append ⟨ts ++ tl, ts.length, r, lf, false⟩ l = (⟨ts ++ tl, ts.length, r, lf, false⟩, 41) := by
          unfold TS.append; rw [if_neg (by simp), if_pos hr]
        rw [hstep, e1]
        exact ⟨⟨rfl, rfl, rfl, hl, hp, rfl⟩, rfl⟩
      · rw [if_neg (fun h => hr h.2), if_neg (by simp)] at hstep
        have e1 : TS.append ⟨ts ++ tl, ts.length, r, lf, false⟩ l = ({ (TS.called ⟨ts ++ tl, ts.length, r, lf, false⟩) with b := ts ++ tl ++ l }, if (lf == 0) = true then 40 else 0) := by
          unfold TS.append; rw [if_neg (by simp), if_neg hr]
        rw [hstep, e1, hz]
        cases fell with
        | true => exact ⟨⟨by simp [TW.loosed], rfl, rfl, hm, hp', hz⟩, rfl⟩
        | false => exact ⟨⟨by simp [TW.loosed, TW.ended], rfl, rfl, hm, hp', hz⟩, rfl⟩
    · have e : (TS.does ⟨ts ++ tl, ts.length, r, lf, false⟩ 2 n l) = TS.sync ⟨ts ++ tl, ts.length, r, lf, false⟩ := rfl
      rw [e]
      rw [if_neg (by simp), if_neg (by simp)] at hstep
      have e1 : TS.sync ⟨ts ++ tl, ts.length, r, lf, false⟩ = if (lf == 0) = true then (TS.called ⟨ts ++ tl, ts.length, r, lf, false⟩, 40) else ({ (TS.called ⟨ts ++ tl, ts.length, r, lf, false⟩) with safe := (ts ++ tl).length }, 0) := by
        unfold TS.sync; rw [if_neg (by simp)]
      rw [hstep, e1, hz]
      cases fell with
      | true => exact ⟨⟨rfl, rfl, rfl, hm, hp', hz⟩, rfl⟩
      | false => exact ⟨⟨(List.append_nil _).symm, rfl, rfl, hm, hp', hz⟩, rfl⟩
    · have e : (TS.does ⟨ts ++ tl, ts.length, r, lf, false⟩ 3 n l) = TS.trim ⟨ts ++ tl, ts.length, r, lf, false⟩ n := rfl
      rw [e]
      rw [if_neg (by simp)] at hstep
      by_cases hr : n < 0 ∨ ((ts ++ tl).length : Int) < n
      · rw [if_pos ⟨rfl, hr⟩] at hstep
        have e1 : TS.trim ⟨ts ++ tl, ts.length, r, lf, false⟩ n = (⟨ts ++ tl, ts.length, r, lf, false⟩, 13) := by
          unfold TS.trim; rw [if_neg (by simp), if_pos hr]
        rw [hstep, e1]
        exact ⟨⟨rfl, rfl, rfl, hl, hp, rfl⟩, rfl⟩
      · rw [if_neg (fun h => hr h.2)] at hstep
        have e1 : TS.trim ⟨ts ++ tl, ts.length, r, lf, false⟩ n = if (lf == 0) = true then (TS.called ⟨ts ++ tl, ts.length, r, lf, false⟩, 40) else ({ (TS.called ⟨ts ++ tl, ts.length, r, lf, false⟩) with b := (ts ++ tl).take n.toNat, safe := n }, 0) := by
          unfold TS.trim; rw [if_neg (by simp), if_neg hr]
        rw [hstep, e1, hz]
        cases fell with
        | true => exact ⟨⟨rfl, rfl, rfl, hm, hp', hz⟩, rfl⟩
        | false =>
          refine ⟨⟨(List.append_nil _).symm, ?_, rfl, hm, hp', hz⟩, rfl⟩
          show n = (((ts ++ tl).take n.toNat).length : Int)
          rw [List.length_take]
          omega
end Go.Proofs.Ytmllakklhbmboaa.T
