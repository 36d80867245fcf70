/-
  No cell of these rows narrows 'for every input' (looked for: loops, veiled, ifaces, maps, wideKeys, modest, calm, conditions, laid).
  DERIVED. THE GIVEN ROWS OF THIS SEAT. 5 by the template 'for every input the law returns true; each argument reads behind the call as it read before'; 0 by the template 'total and deterministic' (their statements: YtfpjickdkkhndaaTotals.lean).
  GIVEN WITH THE SEED: the statements are not yours to turn. If you find one false, say at which input.
  Laid BY PROGRAM, IN A SANDBOX (cutbox-rows.mjs): the forced cells as the released guide's own fill.sh prints them over the translation 96e704bb44b74a1f… (all of the seat's roots in one cut). By AI agents, Wed Nov 11 2026. No macro, syntax, notation, axiom, sorry.
-/
import Derived.Test.YtfpjickdkkhndaaChecked
import GoSem.Claim
import GoSem.ClaimJoined
import GoSem.ClaimMapViews
import Derived.JoinedTies
import Derived.KernelRfl
namespace Go.Proofs.Ytfpjickdkkhndaa
/- THE CELL 'sum', in the pinned program and in every row, IS THE sha256 OF THE DUMP (.gsa) THAT YtfpjickdkkhndaaProg.lean LOADS. Nothing in Lean hashes anything: it is a label: what it is worth is what the hold of that sum in a sandbox is worth. -/
noncomputable def Try.pinned : Pinned := { name := "ytfpjickdkkhndaa", sum := "96e704bb44b74a1fa2b0e36ef5ad0d68d7792c3f226d83378c045d586b48f27f", checked := Try.checked }
namespace Rows
def none {H : Type} : Left H := { results := [], args := [] }

/-- 'colanderlaw13.LedgerAgain': WHATEVER THE INPUT: true; the input reads as it did. -/
def ledgerAgainSpec : ChangeSpec := { name := "ledgerAgain", fn := fun _ => fun
  | [d1, d2] => { results := [.lit (.bool true)], args := [d1, d2] }
  | _ => none }
def ledgerAgainRow : OpenClaim := { program := "ytfpjickdkkhndaa", sum := "96e704bb44b74a1fa2b0e36ef5ad0d68d7792c3f226d83378c045d586b48f27f", func := "colander/colanderlaw13.LedgerAgain", spec := "ledgerAgain", unfollowed := true, recurses := true, apart := false }
def LedgerAgainSaid : Prop := ledgerAgainRow.holds Try.pinned (OpenSpec.ofChange ledgerAgainSpec)

/-- ITS FALSE NEIGHBOUR: 'it returns false'. Refute it at one input. -/
def ledgerAgainWrong : ChangeSpec := { name := "ledgerAgain", fn := fun _ => fun
  | [d1, d2] => { results := [.lit (.bool false)], args := [d1, d2] }
  | _ => none }
def LedgerAgainWrongFalsely : Prop := ledgerAgainRow.holds Try.pinned (OpenSpec.ofChange ledgerAgainWrong)

/-- 'colanderlaw13.LedgerSteps': WHATEVER THE INPUT: true; the input reads as it did. -/
def ledgerStepsSpec : ChangeSpec := { name := "ledgerSteps", fn := fun _ => fun
  | [d1, d2] => { results := [.lit (.bool true)], args := [d1, d2] }
  | _ => none }
def ledgerStepsRow : OpenClaim := { program := "ytfpjickdkkhndaa", sum := "96e704bb44b74a1fa2b0e36ef5ad0d68d7792c3f226d83378c045d586b48f27f", func := "colander/colanderlaw13.LedgerSteps", spec := "ledgerSteps", unfollowed := true, recurses := true, apart := false }
def LedgerStepsSaid : Prop := ledgerStepsRow.holds Try.pinned (OpenSpec.ofChange ledgerStepsSpec)

/-- ITS FALSE NEIGHBOUR: 'it returns false'. Refute it at one input. -/
def ledgerStepsWrong : ChangeSpec := { name := "ledgerSteps", fn := fun _ => fun
  | [d1, d2] => { results := [.lit (.bool false)], args := [d1, d2] }
  | _ => none }
def LedgerStepsWrongFalsely : Prop := ledgerStepsRow.holds Try.pinned (OpenSpec.ofChange ledgerStepsWrong)

/-- 'colanderlaw13.LedgerOwn': WHATEVER THE INPUT: true; the input reads as it did. -/
def ledgerOwnSpec : ChangeSpec := { name := "ledgerOwn", fn := fun _ => fun
  | [d] => { results := [.lit (.bool true)], args := [d] }
  | _ => none }
def ledgerOwnRow : OpenClaim := { program := "ytfpjickdkkhndaa", sum := "96e704bb44b74a1fa2b0e36ef5ad0d68d7792c3f226d83378c045d586b48f27f", func := "colander/colanderlaw13.LedgerOwn", spec := "ledgerOwn", unfollowed := true, recurses := true, apart := false }
def LedgerOwnSaid : Prop := ledgerOwnRow.holds Try.pinned (OpenSpec.ofChange ledgerOwnSpec)

/-- ITS FALSE NEIGHBOUR: 'it returns false'. Refute it at one input. -/
def ledgerOwnWrong : ChangeSpec := { name := "ledgerOwn", fn := fun _ => fun
  | [d] => { results := [.lit (.bool false)], args := [d] }
  | _ => none }
def LedgerOwnWrongFalsely : Prop := ledgerOwnRow.holds Try.pinned (OpenSpec.ofChange ledgerOwnWrong)

/-- 'colanderlaw13.LedgerOpens': WHATEVER THE INPUT: true; the input reads as it did. -/
def ledgerOpensSpec : ChangeSpec := { name := "ledgerOpens", fn := fun _ => fun
  | [d1, d2] => { results := [.lit (.bool true)], args := [d1, d2] }
  | _ => none }
def ledgerOpensRow : OpenClaim := { program := "ytfpjickdkkhndaa", sum := "96e704bb44b74a1fa2b0e36ef5ad0d68d7792c3f226d83378c045d586b48f27f", func := "colander/colanderlaw13.LedgerOpens", spec := "ledgerOpens", unfollowed := true, recurses := true, apart := false }
def LedgerOpensSaid : Prop := ledgerOpensRow.holds Try.pinned (OpenSpec.ofChange ledgerOpensSpec)

/-- ITS FALSE NEIGHBOUR: 'it returns false'. Refute it at one input. -/
def ledgerOpensWrong : ChangeSpec := { name := "ledgerOpens", fn := fun _ => fun
  | [d1, d2] => { results := [.lit (.bool false)], args := [d1, d2] }
  | _ => none }
def LedgerOpensWrongFalsely : Prop := ledgerOpensRow.holds Try.pinned (OpenSpec.ofChange ledgerOpensWrong)

/-- 'colanderlaw13.LedgerApplies': WHATEVER THE INPUT: true; the input reads as it did. -/
def ledgerAppliesSpec : ChangeSpec := { name := "ledgerApplies", fn := fun _ => fun
  | [d1, d2] => { results := [.lit (.bool true)], args := [d1, d2] }
  | _ => none }
def ledgerAppliesRow : OpenClaim := { program := "ytfpjickdkkhndaa", sum := "96e704bb44b74a1fa2b0e36ef5ad0d68d7792c3f226d83378c045d586b48f27f", func := "colander/colanderlaw13.LedgerApplies", spec := "ledgerApplies", unfollowed := true, recurses := true, apart := false }
def LedgerAppliesSaid : Prop := ledgerAppliesRow.holds Try.pinned (OpenSpec.ofChange ledgerAppliesSpec)

/-- ITS FALSE NEIGHBOUR: 'it returns false'. Refute it at one input. -/
def ledgerAppliesWrong : ChangeSpec := { name := "ledgerApplies", fn := fun _ => fun
  | [d1, d2] => { results := [.lit (.bool false)], args := [d1, d2] }
  | _ => none }
def LedgerAppliesWrongFalsely : Prop := ledgerAppliesRow.holds Try.pinned (OpenSpec.ofChange ledgerAppliesWrong)

/- THE SECOND FORM. 'bulk': how many values and letters a reading holds, each counted each time it is reached (what is shared counts as often as it is met; a slice's spare places count too). A statement '..UptoSaid' is the law's where the arguments, and the package variables that the reading takes, are together of bulk at most 1048576: NARROWER than '..Said'. Prove '..Said' where nothing that the law and all that it calls make is longer than what came in: it says more and counts as full. Else prove '..UptoSaid'. A law counts once. -/
mutual
def uptoBulk {H : Type} : DataW H → Nat
  | .lit (.string bytes) => bytes.length + 1
  | .lit _ => 1
  | .nil => 1
  | .ptr d => uptoBulk d + 1
  | .slice elems spare => uptoBulkAll elems + uptoBulkAll spare + 1
  | .agg parts => uptoBulkAll parts + 1
  | .iface _ d => uptoBulk d + 1
  | .map entries => uptoBulkEntries entries + 1
  | .held _ => 1
def uptoBulkAll {H : Type} : List (DataW H) → Nat
  | [] => 0
  | d :: r => uptoBulk d + uptoBulkAll r
def uptoBulkEntries {H : Type} : List (Lit × DataW H) → Nat
  | [] => 0
  | x :: r => uptoBulkEntry x + uptoBulkEntries r
def uptoBulkEntry {H : Type} : Lit × DataW H → Nat
  | (.string bytes, d) => bytes.length + uptoBulk d + 1
  | (_, d) => uptoBulk d + 1
 end
def uptoSmall : (H : Type) → List (DataW H) → Bool := fun _ ds => decide (uptoBulkAll ds ≤ 1048576)
def OpenSpec.upto (s : _root_.Go.ChangeSpec) : _root_.Go.OpenSpec := { _root_.Go.OpenSpec.ofChange s with cond := some uptoSmall }

/-- 'colanderlaw13.LedgerAgain', WHERE WHAT IT READS IS OF BULK AT MOST 1048576: true; the input reads as it did. -/
def ledgerAgainUptoRow : OpenClaim := { program := "ytfpjickdkkhndaa", sum := "96e704bb44b74a1fa2b0e36ef5ad0d68d7792c3f226d83378c045d586b48f27f", func := "colander/colanderlaw13.LedgerAgain", spec := "ledgerAgain", unfollowed := true, recurses := true, apart := false, narrowed := true }
def LedgerAgainUptoSaid : Prop := ledgerAgainUptoRow.holds Try.pinned (OpenSpec.upto ledgerAgainSpec)

/-- 'colanderlaw13.LedgerSteps', WHERE WHAT IT READS IS OF BULK AT MOST 1048576: true; the input reads as it did. -/
def ledgerStepsUptoRow : OpenClaim := { program := "ytfpjickdkkhndaa", sum := "96e704bb44b74a1fa2b0e36ef5ad0d68d7792c3f226d83378c045d586b48f27f", func := "colander/colanderlaw13.LedgerSteps", spec := "ledgerSteps", unfollowed := true, recurses := true, apart := false, narrowed := true }
def LedgerStepsUptoSaid : Prop := ledgerStepsUptoRow.holds Try.pinned (OpenSpec.upto ledgerStepsSpec)

/-- 'colanderlaw13.LedgerOwn', WHERE WHAT IT READS IS OF BULK AT MOST 1048576: true; the input reads as it did. -/
def ledgerOwnUptoRow : OpenClaim := { program := "ytfpjickdkkhndaa", sum := "96e704bb44b74a1fa2b0e36ef5ad0d68d7792c3f226d83378c045d586b48f27f", func := "colander/colanderlaw13.LedgerOwn", spec := "ledgerOwn", unfollowed := true, recurses := true, apart := false, narrowed := true }
def LedgerOwnUptoSaid : Prop := ledgerOwnUptoRow.holds Try.pinned (OpenSpec.upto ledgerOwnSpec)

/-- 'colanderlaw13.LedgerOpens', WHERE WHAT IT READS IS OF BULK AT MOST 1048576: true; the input reads as it did. -/
def ledgerOpensUptoRow : OpenClaim := { program := "ytfpjickdkkhndaa", sum := "96e704bb44b74a1fa2b0e36ef5ad0d68d7792c3f226d83378c045d586b48f27f", func := "colander/colanderlaw13.LedgerOpens", spec := "ledgerOpens", unfollowed := true, recurses := true, apart := false, narrowed := true }
def LedgerOpensUptoSaid : Prop := ledgerOpensUptoRow.holds Try.pinned (OpenSpec.upto ledgerOpensSpec)

/-- 'colanderlaw13.LedgerApplies', WHERE WHAT IT READS IS OF BULK AT MOST 1048576: true; the input reads as it did. -/
def ledgerAppliesUptoRow : OpenClaim := { program := "ytfpjickdkkhndaa", sum := "96e704bb44b74a1fa2b0e36ef5ad0d68d7792c3f226d83378c045d586b48f27f", func := "colander/colanderlaw13.LedgerApplies", spec := "ledgerApplies", unfollowed := true, recurses := true, apart := false, narrowed := true }
def LedgerAppliesUptoSaid : Prop := ledgerAppliesUptoRow.holds Try.pinned (OpenSpec.upto ledgerAppliesSpec)

end Rows
end Go.Proofs.Ytfpjickdkkhndaa
