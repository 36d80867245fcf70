
/- Readers as plain data: laws of rdList, rdNum, rdCount. No program in sight. -/

import Derived.Test.YtcmfgijdelaelaaPackD

namespace Go.Proofs.Ytcmfgijdelaelaa.Pa

set_option linter.unusedVariables false

theorem rdList_succ {α : Type} (rd : List UInt8 → Option (α × List UInt8)) (n : Nat) (b : List UInt8) : rdList rd (n + 1) b = (rd b).bind fun q => (rdList rd n q.2).map fun r => (q.1 :: r.1, r.2) := by
  rw [rdList]
  cases rd b with
  | none => rfl
  | some q =>
    obtain ⟨x, b'⟩ := q
    simp only [Option.bind_some]
    cases rdList rd n b' with
    | none => rfl
    | some r => rfl
theorem rdList_snoc {α : Type} (rd : List UInt8 → Option (α × List UInt8)) : ∀ (n : Nat) (b : List UInt8), rdList rd (n + 1) b = (rdList rd n b).bind fun r => (rd r.2).map fun q => (r.1 ++ [q.1], q.2)
  | 0, b => by
    rw [rdList_succ]
    simp only [rdList, Option.bind_some, Option.map_some, List.nil_append]
    cases rd b <;> rfl
  | n + 1, b => by
    rw [rdList_succ, rdList_succ rd n]
    cases h : rd b with
    | none => rfl
    | some q =>
      simp only [Option.bind_some]
      rw [rdList_snoc rd n q.2]
      cases h2 : rdList rd n q.2 with
      | none => rfl
      | some r =>
        simp only [Option.bind_some, Option.map_some]
        cases rd r.2 <;> rfl
theorem rdList_stop {α : Type} {rd : List UInt8 → Option (α × List UInt8)} {X : Option (List UInt8)} {k : Nat} (h : X.bind (rdList rd k) = none) : ∀ {m : Nat}, k ≤ m → X.bind (rdList rd m) = none := by
  intro m hm
  obtain ⟨d, rfl⟩ := Nat.le.dest hm
  clear hm
  induction d with
  | zero => exact h
  | succ d ih =>
    cases X with
    | none => rfl
    | some b =>
      simp only [Option.bind_some] at *
      rw [← Nat.add_assoc, rdList_snoc, ih]
      rfl
theorem rdList_step {α : Type} {rd : List UInt8 → Option (α × List UInt8)} {X Y : Option (List UInt8)} {k : Nat} {us : List α} (h : X.bind (rdList rd k) = Y.map fun r => (us, r)) : X.bind (rdList rd (k + 1)) = (Y.bind rd).map fun q => (us ++ [q.1], q.2) := by
  have e : X.bind (rdList rd (k + 1)) = (X.bind (rdList rd k)).bind fun r => (rd r.2).map fun q => (r.1 ++ [q.1], q.2) := by
    cases X with
    | none => rfl
    | some b => exact rdList_snoc rd k b
  rw [e, h]
  cases Y with
  | none => rfl
  | some y =>
    simp only [Option.map_some, Option.bind_some]
/-- A count, of things that take so many bytes at least. -/
def rdCountL (least : Nat) (b : List UInt8) : Option (Nat × List UInt8) := (rdNum b).bind fun r => if r.1 < 0 ∨ (((r.2.length / least : Nat)) : Int) < r.1 then none else some (r.1.toNat, r.2)
/-- A list behind its count. -/
def rdSeq {α : Type} (least : Nat) (rd : List UInt8 → Option (α × List UInt8)) (b : List UInt8) : Option (List α × List UInt8) := (rdCountL least b).bind fun r => rdList rd r.1 r.2
/-- Bytes behind their count. -/
def rdText (b : List UInt8) : Option (List UInt8 × List UInt8) := (rdCountL 1 b).map fun r => (r.2.take r.1, r.2.drop r.1)
end Go.Proofs.Ytcmfgijdelaelaa.Pa
