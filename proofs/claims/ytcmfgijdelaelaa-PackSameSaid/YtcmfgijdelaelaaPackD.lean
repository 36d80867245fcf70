
/- Rules, entries and records as plain data, their bytes, and how they are read. No program in sight. -/

import Derived.Test.YtcmfgijdelaelaaPackM

import Derived.Test.YtcmfgijdelaelaaStrApp

namespace Go.Proofs.Ytcmfgijdelaelaa.Pa

set_option linter.unusedVariables false

open Go.Proofs.Ytcmfgijdelaelaa.C

structure Rule where
  id : Int
  pri : Int
  act : Int
  scope : Int
  pat : ByteArray
deriving DecidableEq
structure Entry where
  view : Int
  client : Int
  request : Int
  dflt : Int
  closed : Int
  fuel : Int
  stack : Int
  put : List Rule
  drop : List Int
deriving DecidableEq

/-- A number's bytes. -/
def num (n : Int) : List UInt8 := six ((n + 1) % 281474976710656).toNat
theorem num_len (n : Int) : (num n).length = 6 := rfl
def ruleB (r : Rule) : List UInt8 := num r.id ++ num r.pri ++ num r.act ++ num r.scope ++ num r.pat.size ++ bts r.pat
def entryB (e : Entry) : List UInt8 :=
  num e.view ++ num e.client ++ num e.request ++ num e.dflt ++ num e.closed ++ num e.fuel ++ num e.stack ++ num e.put.length ++ e.put.flatMap ruleB ++ num e.drop.length ++ e.drop.flatMap num
def logB (l : List Entry) : List UInt8 := num l.length ++ l.flatMap entryB

/-- A reader: what is left; none: it lacks. -/
def rdNum (b : List UInt8) : Option (Int × List UInt8) := if b.length < 6 then none else some ((val (b.take 6) : Int) - 1, b.drop 6)
theorem rdNum_num {n : Int} (h0 : -1 ≤ n) (h1 : n < 281474976710655) (b : List UInt8) : rdNum (num n ++ b) = some (n, b) := by
  have hm : (n + 1) % 281474976710656 = n + 1 := Int.emod_eq_of_lt (by omega) (by omega)
  unfold rdNum
  rw [if_neg (by rw [List.length_append, num_len]; omega), List.take_left' (num_len n), List.drop_left' (num_len n)]
  unfold num
  rw [hm, val_six (by omega)]
  congr 2
  omega

def rdList {α : Type} (rd : List UInt8 → Option (α × List UInt8)) : Nat → List UInt8 → Option (List α × List UInt8)
  | 0, b => some ([], b)
  | n + 1, b => match rd b with
    | none => none
    | some (x, b') => match rdList rd n b' with
      | none => none
      | some (l, b'') => some (x :: l, b'')
theorem rdList_all {α : Type} {rd : List UInt8 → Option (α × List UInt8)} {wr : α → List UInt8} : ∀ {l : List α}, (∀ x ∈ l, ∀ b, rd (wr x ++ b) = some (x, b)) → ∀ b, rdList rd l.length (l.flatMap wr ++ b) = some (l, b)
  | [], _, b => rfl
  | x :: l, h, b => by
    have h1 := h x (List.mem_cons_self ..)
    have ih := rdList_all (rd := rd) (wr := wr) (l := l) (fun y hy => h y (List.mem_cons_of_mem _ hy))
    show rdList rd (l.length + 1) ((wr x ++ l.flatMap wr) ++ b) = _
    unfold rdList
    rw [List.append_assoc, h1]
    simp only
    rw [ih]
/-- How many: no less than none, no more than there is room for. -/
def rdCount (b : List UInt8) : Option (Nat × List UInt8) := match rdNum b with
  | none => none
  | some (n, b') => if n < 0 ∨ (b'.length : Int) < n then none else some (n.toNat, b')
end Go.Proofs.Ytcmfgijdelaelaa.Pa
