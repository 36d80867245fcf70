/-
  No cell of these rows narrows 'for every input' (looked for: loops, veiled, ifaces, maps, wideKeys, modest, calm, conditions, laid).
  DERIVED. THE GIVEN ROWS OF THIS SEAT. 7 by the template 'for every input the law returns true; each argument reads behind the call as it read before'; 0 by the template 'total and deterministic' (their statements: YtoojifcpjbakgaaTotals.lean).
  GIVEN WITH THE SEED: the statements are not yours to turn. If you find one false, say at which input.
  Laid BY PROGRAM, IN A SANDBOX (cutbox-rows.mjs): the forced cells as the released guide's own fill.sh prints them over the translation 6d5afa7d5d4d8fd3… (all of the seat's roots in one cut). By AI agents, Wed Nov 11 2026. No macro, syntax, notation, axiom, sorry.
-/
import Derived.Test.YtoojifcpjbakgaaChecked
import GoSem.Claim
import GoSem.ClaimJoined
import GoSem.ClaimMapViews
import Derived.JoinedTies
import Derived.KernelRfl
namespace Go.Proofs.Ytoojifcpjbakgaa
/- THE CELL 'sum', in the pinned program and in every row, IS THE sha256 OF THE DUMP (.gsa) THAT YtoojifcpjbakgaaProg.lean LOADS. Nothing in Lean hashes anything: it is a label: what it is worth is what the hold of that sum in a sandbox is worth. -/
noncomputable def Try.pinned : Pinned := { name := "ytoojifcpjbakgaa", sum := "6d5afa7d5d4d8fd33a1da5d3cb12dad07f9f1ca953a1b70128c80eba0a0515b0", checked := Try.checked }
namespace Rows
def none {H : Type} : Left H := { results := [], args := [] }

/-- 'colanderlaw02.ClassOrder': WHATEVER THE INPUT: true; the input reads as it did. -/
def classOrderSpec : ChangeSpec := { name := "classOrder", fn := fun _ => fun
  | [d1, d2] => { results := [.lit (.bool true)], args := [d1, d2] }
  | _ => none }
def classOrderRow : OpenClaim := { program := "ytoojifcpjbakgaa", sum := "6d5afa7d5d4d8fd33a1da5d3cb12dad07f9f1ca953a1b70128c80eba0a0515b0", func := "colander/colanderlaw02.ClassOrder", spec := "classOrder", unfollowed := true, recurses := true, apart := false }
def ClassOrderSaid : Prop := classOrderRow.holds Try.pinned (OpenSpec.ofChange classOrderSpec)

/-- ITS FALSE NEIGHBOUR: 'it returns false'. Refute it at one input. -/
def classOrderWrong : ChangeSpec := { name := "classOrder", fn := fun _ => fun
  | [d1, d2] => { results := [.lit (.bool false)], args := [d1, d2] }
  | _ => none }
def ClassOrderWrongFalsely : Prop := classOrderRow.holds Try.pinned (OpenSpec.ofChange classOrderWrong)

/-- 'colanderlaw02.ClassMakes': WHATEVER THE INPUT: true; the input reads as it did. -/
def classMakesSpec : ChangeSpec := { name := "classMakes", fn := fun _ => fun
  | [d1, d2] => { results := [.lit (.bool true)], args := [d1, d2] }
  | _ => none }
def classMakesRow : OpenClaim := { program := "ytoojifcpjbakgaa", sum := "6d5afa7d5d4d8fd33a1da5d3cb12dad07f9f1ca953a1b70128c80eba0a0515b0", func := "colander/colanderlaw02.ClassMakes", spec := "classMakes", unfollowed := true, recurses := true, apart := false }
def ClassMakesSaid : Prop := classMakesRow.holds Try.pinned (OpenSpec.ofChange classMakesSpec)

/-- ITS FALSE NEIGHBOUR: 'it returns false'. Refute it at one input. -/
def classMakesWrong : ChangeSpec := { name := "classMakes", fn := fun _ => fun
  | [d1, d2] => { results := [.lit (.bool false)], args := [d1, d2] }
  | _ => none }
def ClassMakesWrongFalsely : Prop := classMakesRow.holds Try.pinned (OpenSpec.ofChange classMakesWrong)

/-- 'colanderlaw02.ClassNots': WHATEVER THE INPUT: true; the input reads as it did. -/
def classNotsSpec : ChangeSpec := { name := "classNots", fn := fun _ => fun
  | [d1, d2] => { results := [.lit (.bool true)], args := [d1, d2] }
  | _ => none }
def classNotsRow : OpenClaim := { program := "ytoojifcpjbakgaa", sum := "6d5afa7d5d4d8fd33a1da5d3cb12dad07f9f1ca953a1b70128c80eba0a0515b0", func := "colander/colanderlaw02.ClassNots", spec := "classNots", unfollowed := true, recurses := true, apart := false }
def ClassNotsSaid : Prop := classNotsRow.holds Try.pinned (OpenSpec.ofChange classNotsSpec)

/-- ITS FALSE NEIGHBOUR: 'it returns false'. Refute it at one input. -/
def classNotsWrong : ChangeSpec := { name := "classNots", fn := fun _ => fun
  | [d1, d2] => { results := [.lit (.bool false)], args := [d1, d2] }
  | _ => none }
def ClassNotsWrongFalsely : Prop := classNotsRow.holds Try.pinned (OpenSpec.ofChange classNotsWrong)

/-- 'colanderlaw02.ClassFolds': WHATEVER THE INPUT: true; the input reads as it did. -/
def classFoldsSpec : ChangeSpec := { name := "classFolds", fn := fun _ => fun
  | [d1, d2] => { results := [.lit (.bool true)], args := [d1, d2] }
  | _ => none }
def classFoldsRow : OpenClaim := { program := "ytoojifcpjbakgaa", sum := "6d5afa7d5d4d8fd33a1da5d3cb12dad07f9f1ca953a1b70128c80eba0a0515b0", func := "colander/colanderlaw02.ClassFolds", spec := "classFolds", unfollowed := true, recurses := true, apart := false }
def ClassFoldsSaid : Prop := classFoldsRow.holds Try.pinned (OpenSpec.ofChange classFoldsSpec)

/-- ITS FALSE NEIGHBOUR: 'it returns false'. Refute it at one input. -/
def classFoldsWrong : ChangeSpec := { name := "classFolds", fn := fun _ => fun
  | [d1, d2] => { results := [.lit (.bool false)], args := [d1, d2] }
  | _ => none }
def ClassFoldsWrongFalsely : Prop := classFoldsRow.holds Try.pinned (OpenSpec.ofChange classFoldsWrong)

/-- 'colanderlaw02.ClassLaws': WHATEVER THE INPUT: true; the input reads as it did. -/
def classLawsSpec : ChangeSpec := { name := "classLaws", fn := fun _ => fun
  | [d1, d2] => { results := [.lit (.bool true)], args := [d1, d2] }
  | _ => none }
def classLawsRow : OpenClaim := { program := "ytoojifcpjbakgaa", sum := "6d5afa7d5d4d8fd33a1da5d3cb12dad07f9f1ca953a1b70128c80eba0a0515b0", func := "colander/colanderlaw02.ClassLaws", spec := "classLaws", unfollowed := true, recurses := true, apart := false }
def ClassLawsSaid : Prop := classLawsRow.holds Try.pinned (OpenSpec.ofChange classLawsSpec)

/-- ITS FALSE NEIGHBOUR: 'it returns false'. Refute it at one input. -/
def classLawsWrong : ChangeSpec := { name := "classLaws", fn := fun _ => fun
  | [d1, d2] => { results := [.lit (.bool false)], args := [d1, d2] }
  | _ => none }
def ClassLawsWrongFalsely : Prop := classLawsRow.holds Try.pinned (OpenSpec.ofChange classLawsWrong)

/-- 'colanderlaw02.ClassBoth': WHATEVER THE INPUT: true; the input reads as it did. -/
def classBothSpec : ChangeSpec := { name := "classBoth", fn := fun _ => fun
  | [d1, d2, d3] => { results := [.lit (.bool true)], args := [d1, d2, d3] }
  | _ => none }
def classBothRow : OpenClaim := { program := "ytoojifcpjbakgaa", sum := "6d5afa7d5d4d8fd33a1da5d3cb12dad07f9f1ca953a1b70128c80eba0a0515b0", func := "colander/colanderlaw02.ClassBoth", spec := "classBoth", unfollowed := true, recurses := true, apart := false }
def ClassBothSaid : Prop := classBothRow.holds Try.pinned (OpenSpec.ofChange classBothSpec)

/-- ITS FALSE NEIGHBOUR: 'it returns false'. Refute it at one input. -/
def classBothWrong : ChangeSpec := { name := "classBoth", fn := fun _ => fun
  | [d1, d2, d3] => { results := [.lit (.bool false)], args := [d1, d2, d3] }
  | _ => none }
def ClassBothWrongFalsely : Prop := classBothRow.holds Try.pinned (OpenSpec.ofChange classBothWrong)

/-- 'colanderlaw02.ClassAdds': WHATEVER THE INPUT: true; the input reads as it did. -/
def classAddsSpec : ChangeSpec := { name := "classAdds", fn := fun _ => fun
  | [d1, d2] => { results := [.lit (.bool true)], args := [d1, d2] }
  | _ => none }
def classAddsRow : OpenClaim := { program := "ytoojifcpjbakgaa", sum := "6d5afa7d5d4d8fd33a1da5d3cb12dad07f9f1ca953a1b70128c80eba0a0515b0", func := "colander/colanderlaw02.ClassAdds", spec := "classAdds", unfollowed := true, recurses := true, apart := false }
def ClassAddsSaid : Prop := classAddsRow.holds Try.pinned (OpenSpec.ofChange classAddsSpec)

/-- ITS FALSE NEIGHBOUR: 'it returns false'. Refute it at one input. -/
def classAddsWrong : ChangeSpec := { name := "classAdds", fn := fun _ => fun
  | [d1, d2] => { results := [.lit (.bool false)], args := [d1, d2] }
  | _ => none }
def ClassAddsWrongFalsely : Prop := classAddsRow.holds Try.pinned (OpenSpec.ofChange classAddsWrong)

/- THE SECOND FORM. 'bulk': how many values and letters a reading holds, each counted each time it is reached (what is shared counts as often as it is met; a slice's spare places count too). A statement '..UptoSaid' is the law's where the arguments, and the package variables that the reading takes, are together of bulk at most 1048576: NARROWER than '..Said'. Prove '..Said' where nothing that the law and all that it calls make is longer than what came in: it says more and counts as full. Else prove '..UptoSaid'. A law counts once. -/
mutual
def uptoBulk {H : Type} : DataW H → Nat
  | .lit (.string bytes) => bytes.length + 1
  | .lit _ => 1
  | .nil => 1
  | .ptr d => uptoBulk d + 1
  | .slice elems spare => uptoBulkAll elems + uptoBulkAll spare + 1
  | .agg parts => uptoBulkAll parts + 1
  | .iface _ d => uptoBulk d + 1
  | .map entries => uptoBulkEntries entries + 1
  | .held _ => 1
def uptoBulkAll {H : Type} : List (DataW H) → Nat
  | [] => 0
  | d :: r => uptoBulk d + uptoBulkAll r
def uptoBulkEntries {H : Type} : List (Lit × DataW H) → Nat
  | [] => 0
  | x :: r => uptoBulkEntry x + uptoBulkEntries r
def uptoBulkEntry {H : Type} : Lit × DataW H → Nat
  | (.string bytes, d) => bytes.length + uptoBulk d + 1
  | (_, d) => uptoBulk d + 1
 end
def uptoSmall : (H : Type) → List (DataW H) → Bool := fun _ ds => decide (uptoBulkAll ds ≤ 1048576)
def OpenSpec.upto (s : _root_.Go.ChangeSpec) : _root_.Go.OpenSpec := { _root_.Go.OpenSpec.ofChange s with cond := some uptoSmall }

/-- 'colanderlaw02.ClassOrder', WHERE WHAT IT READS IS OF BULK AT MOST 1048576: true; the input reads as it did. -/
def classOrderUptoRow : OpenClaim := { program := "ytoojifcpjbakgaa", sum := "6d5afa7d5d4d8fd33a1da5d3cb12dad07f9f1ca953a1b70128c80eba0a0515b0", func := "colander/colanderlaw02.ClassOrder", spec := "classOrder", unfollowed := true, recurses := true, apart := false, narrowed := true }
def ClassOrderUptoSaid : Prop := classOrderUptoRow.holds Try.pinned (OpenSpec.upto classOrderSpec)

/-- 'colanderlaw02.ClassMakes', WHERE WHAT IT READS IS OF BULK AT MOST 1048576: true; the input reads as it did. -/
def classMakesUptoRow : OpenClaim := { program := "ytoojifcpjbakgaa", sum := "6d5afa7d5d4d8fd33a1da5d3cb12dad07f9f1ca953a1b70128c80eba0a0515b0", func := "colander/colanderlaw02.ClassMakes", spec := "classMakes", unfollowed := true, recurses := true, apart := false, narrowed := true }
def ClassMakesUptoSaid : Prop := classMakesUptoRow.holds Try.pinned (OpenSpec.upto classMakesSpec)

/-- 'colanderlaw02.ClassNots', WHERE WHAT IT READS IS OF BULK AT MOST 1048576: true; the input reads as it did. -/
def classNotsUptoRow : OpenClaim := { program := "ytoojifcpjbakgaa", sum := "6d5afa7d5d4d8fd33a1da5d3cb12dad07f9f1ca953a1b70128c80eba0a0515b0", func := "colander/colanderlaw02.ClassNots", spec := "classNots", unfollowed := true, recurses := true, apart := false, narrowed := true }
def ClassNotsUptoSaid : Prop := classNotsUptoRow.holds Try.pinned (OpenSpec.upto classNotsSpec)

/-- 'colanderlaw02.ClassFolds', WHERE WHAT IT READS IS OF BULK AT MOST 1048576: true; the input reads as it did. -/
def classFoldsUptoRow : OpenClaim := { program := "ytoojifcpjbakgaa", sum := "6d5afa7d5d4d8fd33a1da5d3cb12dad07f9f1ca953a1b70128c80eba0a0515b0", func := "colander/colanderlaw02.ClassFolds", spec := "classFolds", unfollowed := true, recurses := true, apart := false, narrowed := true }
def ClassFoldsUptoSaid : Prop := classFoldsUptoRow.holds Try.pinned (OpenSpec.upto classFoldsSpec)

/-- 'colanderlaw02.ClassLaws', WHERE WHAT IT READS IS OF BULK AT MOST 1048576: true; the input reads as it did. -/
def classLawsUptoRow : OpenClaim := { program := "ytoojifcpjbakgaa", sum := "6d5afa7d5d4d8fd33a1da5d3cb12dad07f9f1ca953a1b70128c80eba0a0515b0", func := "colander/colanderlaw02.ClassLaws", spec := "classLaws", unfollowed := true, recurses := true, apart := false, narrowed := true }
def ClassLawsUptoSaid : Prop := classLawsUptoRow.holds Try.pinned (OpenSpec.upto classLawsSpec)

/-- 'colanderlaw02.ClassBoth', WHERE WHAT IT READS IS OF BULK AT MOST 1048576: true; the input reads as it did. -/
def classBothUptoRow : OpenClaim := { program := "ytoojifcpjbakgaa", sum := "6d5afa7d5d4d8fd33a1da5d3cb12dad07f9f1ca953a1b70128c80eba0a0515b0", func := "colander/colanderlaw02.ClassBoth", spec := "classBoth", unfollowed := true, recurses := true, apart := false, narrowed := true }
def ClassBothUptoSaid : Prop := classBothUptoRow.holds Try.pinned (OpenSpec.upto classBothSpec)

/-- 'colanderlaw02.ClassAdds', WHERE WHAT IT READS IS OF BULK AT MOST 1048576: true; the input reads as it did. -/
def classAddsUptoRow : OpenClaim := { program := "ytoojifcpjbakgaa", sum := "6d5afa7d5d4d8fd33a1da5d3cb12dad07f9f1ca953a1b70128c80eba0a0515b0", func := "colander/colanderlaw02.ClassAdds", spec := "classAdds", unfollowed := true, recurses := true, apart := false, narrowed := true }
def ClassAddsUptoSaid : Prop := classAddsUptoRow.holds Try.pinned (OpenSpec.upto classAddsSpec)

end Rows
end Go.Proofs.Ytoojifcpjbakgaa
