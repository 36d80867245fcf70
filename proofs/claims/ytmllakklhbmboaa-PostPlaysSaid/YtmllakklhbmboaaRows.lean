/-
  No cell of these rows narrows 'for every input' (looked for: loops, veiled, ifaces, maps, wideKeys, modest, calm, conditions, laid).
  DERIVED. THE GIVEN ROWS OF THIS SEAT. 9 by the template 'for every input the law returns true; each argument reads behind the call as it read before'; 0 by the template 'total and deterministic' (their statements: YtmllakklhbmboaaTotals.lean).
  GIVEN WITH THE SEED: the statements are not yours to turn. If you find one false, say at which input.
  Laid BY PROGRAM, IN A SANDBOX (cutbox-rows.mjs): the forced cells as the released guide's own fill.sh prints them over the translation c662b87b890faca4… (all of the seat's roots in one cut). By AI agents, Wed Nov 11 2026. No macro, syntax, notation, axiom, sorry.
-/
import Derived.Test.YtmllakklhbmboaaChecked
import GoSem.Claim
import GoSem.ClaimJoined
import GoSem.ClaimMapViews
import Derived.JoinedTies
import Derived.KernelRfl
namespace Go.Proofs.Ytmllakklhbmboaa
/- THE CELL 'sum', in the pinned program and in every row, IS THE sha256 OF THE DUMP (.gsa) THAT YtmllakklhbmboaaProg.lean LOADS. Nothing in Lean hashes anything: it is a label: what it is worth is what the hold of that sum in a sandbox is worth. -/
noncomputable def Try.pinned : Pinned := { name := "ytmllakklhbmboaa", sum := "c662b87b890faca46b96568217aea906e53afb078a4c53d2ff1c8e9589f51d8c", checked := Try.checked }
namespace Rows
def none {H : Type} : Left H := { results := [], args := [] }

/-- 'colanderlaw12.TapeKeeps': WHATEVER THE INPUT: true; the input reads as it did. -/
def tapeKeepsSpec : ChangeSpec := { name := "tapeKeeps", fn := fun _ => fun
  | [d1, d2, d3, d4] => { results := [.lit (.bool true)], args := [d1, d2, d3, d4] }
  | _ => none }
def tapeKeepsRow : OpenClaim := { program := "ytmllakklhbmboaa", sum := "c662b87b890faca46b96568217aea906e53afb078a4c53d2ff1c8e9589f51d8c", func := "colander/colanderlaw12.TapeKeeps", spec := "tapeKeeps", apart := false }
def TapeKeepsSaid : Prop := tapeKeepsRow.holds Try.pinned (OpenSpec.ofChange tapeKeepsSpec)

/-- ITS FALSE NEIGHBOUR: 'it returns false'. Refute it at one input. -/
def tapeKeepsWrong : ChangeSpec := { name := "tapeKeeps", fn := fun _ => fun
  | [d1, d2, d3, d4] => { results := [.lit (.bool false)], args := [d1, d2, d3, d4] }
  | _ => none }
def TapeKeepsWrongFalsely : Prop := tapeKeepsRow.holds Try.pinned (OpenSpec.ofChange tapeKeepsWrong)

/-- 'colanderlaw12.TapeOwn': WHATEVER THE INPUT: true; the input reads as it did. -/
def tapeOwnSpec : ChangeSpec := { name := "tapeOwn", fn := fun _ => fun
  | [d] => { results := [.lit (.bool true)], args := [d] }
  | _ => none }
def tapeOwnRow : OpenClaim := { program := "ytmllakklhbmboaa", sum := "c662b87b890faca46b96568217aea906e53afb078a4c53d2ff1c8e9589f51d8c", func := "colander/colanderlaw12.TapeOwn", spec := "tapeOwn", apart := false }
def TapeOwnSaid : Prop := tapeOwnRow.holds Try.pinned (OpenSpec.ofChange tapeOwnSpec)

/-- ITS FALSE NEIGHBOUR: 'it returns false'. Refute it at one input. -/
def tapeOwnWrong : ChangeSpec := { name := "tapeOwn", fn := fun _ => fun
  | [d] => { results := [.lit (.bool false)], args := [d] }
  | _ => none }
def TapeOwnWrongFalsely : Prop := tapeOwnRow.holds Try.pinned (OpenSpec.ofChange tapeOwnWrong)

/-- 'colanderlaw17.PostFull': WHATEVER THE INPUT: true; the input reads as it did. -/
def postFullSpec : ChangeSpec := { name := "postFull", fn := fun _ => fun
  | [d1, d2] => { results := [.lit (.bool true)], args := [d1, d2] }
  | _ => none }
def postFullRow : OpenClaim := { program := "ytmllakklhbmboaa", sum := "c662b87b890faca46b96568217aea906e53afb078a4c53d2ff1c8e9589f51d8c", func := "colander/colanderlaw17.PostFull", spec := "postFull", apart := false }
def PostFullSaid : Prop := postFullRow.holds Try.pinned (OpenSpec.ofChange postFullSpec)

/-- ITS FALSE NEIGHBOUR: 'it returns false'. Refute it at one input. -/
def postFullWrong : ChangeSpec := { name := "postFull", fn := fun _ => fun
  | [d1, d2] => { results := [.lit (.bool false)], args := [d1, d2] }
  | _ => none }
def PostFullWrongFalsely : Prop := postFullRow.holds Try.pinned (OpenSpec.ofChange postFullWrong)

/-- 'colanderlaw17.PostOrder': WHATEVER THE INPUT: true; the input reads as it did. -/
def postOrderSpec : ChangeSpec := { name := "postOrder", fn := fun _ => fun
  | [d] => { results := [.lit (.bool true)], args := [d] }
  | _ => none }
def postOrderRow : OpenClaim := { program := "ytmllakklhbmboaa", sum := "c662b87b890faca46b96568217aea906e53afb078a4c53d2ff1c8e9589f51d8c", func := "colander/colanderlaw17.PostOrder", spec := "postOrder", apart := false }
def PostOrderSaid : Prop := postOrderRow.holds Try.pinned (OpenSpec.ofChange postOrderSpec)

/-- ITS FALSE NEIGHBOUR: 'it returns false'. Refute it at one input. -/
def postOrderWrong : ChangeSpec := { name := "postOrder", fn := fun _ => fun
  | [d] => { results := [.lit (.bool false)], args := [d] }
  | _ => none }
def PostOrderWrongFalsely : Prop := postOrderRow.holds Try.pinned (OpenSpec.ofChange postOrderWrong)

/-- 'colanderlaw12.TapeRoom': WHATEVER THE INPUT: true; the input reads as it did. -/
def tapeRoomSpec : ChangeSpec := { name := "tapeRoom", fn := fun _ => fun
  | [d1, d2, d3] => { results := [.lit (.bool true)], args := [d1, d2, d3] }
  | _ => none }
def tapeRoomRow : OpenClaim := { program := "ytmllakklhbmboaa", sum := "c662b87b890faca46b96568217aea906e53afb078a4c53d2ff1c8e9589f51d8c", func := "colander/colanderlaw12.TapeRoom", spec := "tapeRoom", apart := false }
def TapeRoomSaid : Prop := tapeRoomRow.holds Try.pinned (OpenSpec.ofChange tapeRoomSpec)

/-- ITS FALSE NEIGHBOUR: 'it returns false'. Refute it at one input. -/
def tapeRoomWrong : ChangeSpec := { name := "tapeRoom", fn := fun _ => fun
  | [d1, d2, d3] => { results := [.lit (.bool false)], args := [d1, d2, d3] }
  | _ => none }
def TapeRoomWrongFalsely : Prop := tapeRoomRow.holds Try.pinned (OpenSpec.ofChange tapeRoomWrong)

/-- 'colanderlaw12.TapeGrows': WHATEVER THE INPUT: true; the input reads as it did. -/
def tapeGrowsSpec : ChangeSpec := { name := "tapeGrows", fn := fun _ => fun
  | [d] => { results := [.lit (.bool true)], args := [d] }
  | _ => none }
def tapeGrowsRow : OpenClaim := { program := "ytmllakklhbmboaa", sum := "c662b87b890faca46b96568217aea906e53afb078a4c53d2ff1c8e9589f51d8c", func := "colander/colanderlaw12.TapeGrows", spec := "tapeGrows", apart := false }
def TapeGrowsSaid : Prop := tapeGrowsRow.holds Try.pinned (OpenSpec.ofChange tapeGrowsSpec)

/-- ITS FALSE NEIGHBOUR: 'it returns false'. Refute it at one input. -/
def tapeGrowsWrong : ChangeSpec := { name := "tapeGrows", fn := fun _ => fun
  | [d] => { results := [.lit (.bool false)], args := [d] }
  | _ => none }
def TapeGrowsWrongFalsely : Prop := tapeGrowsRow.holds Try.pinned (OpenSpec.ofChange tapeGrowsWrong)

/-- 'colanderlaw12.TapePlays': WHATEVER THE INPUT: true; the input reads as it did. -/
def tapePlaysSpec : ChangeSpec := { name := "tapePlays", fn := fun _ => fun
  | [d1, d2] => { results := [.lit (.bool true)], args := [d1, d2] }
  | _ => none }
def tapePlaysRow : OpenClaim := { program := "ytmllakklhbmboaa", sum := "c662b87b890faca46b96568217aea906e53afb078a4c53d2ff1c8e9589f51d8c", func := "colander/colanderlaw12.TapePlays", spec := "tapePlays", apart := false }
def TapePlaysSaid : Prop := tapePlaysRow.holds Try.pinned (OpenSpec.ofChange tapePlaysSpec)

/-- ITS FALSE NEIGHBOUR: 'it returns false'. Refute it at one input. -/
def tapePlaysWrong : ChangeSpec := { name := "tapePlays", fn := fun _ => fun
  | [d1, d2] => { results := [.lit (.bool false)], args := [d1, d2] }
  | _ => none }
def TapePlaysWrongFalsely : Prop := tapePlaysRow.holds Try.pinned (OpenSpec.ofChange tapePlaysWrong)

/-- 'colanderlaw17.PostPlays': WHATEVER THE INPUT: true; the input reads as it did. -/
def postPlaysSpec : ChangeSpec := { name := "postPlays", fn := fun _ => fun
  | [d] => { results := [.lit (.bool true)], args := [d] }
  | _ => none }
def postPlaysRow : OpenClaim := { program := "ytmllakklhbmboaa", sum := "c662b87b890faca46b96568217aea906e53afb078a4c53d2ff1c8e9589f51d8c", func := "colander/colanderlaw17.PostPlays", spec := "postPlays", unfollowed := true, recurses := true, apart := false }
def PostPlaysSaid : Prop := postPlaysRow.holds Try.pinned (OpenSpec.ofChange postPlaysSpec)

/-- ITS FALSE NEIGHBOUR: 'it returns false'. Refute it at one input. -/
def postPlaysWrong : ChangeSpec := { name := "postPlays", fn := fun _ => fun
  | [d] => { results := [.lit (.bool false)], args := [d] }
  | _ => none }
def PostPlaysWrongFalsely : Prop := postPlaysRow.holds Try.pinned (OpenSpec.ofChange postPlaysWrong)

/-- 'colanderlaw17.PostCuts': WHATEVER THE INPUT: true; the input reads as it did. -/
def postCutsSpec : ChangeSpec := { name := "postCuts", fn := fun _ => fun
  | [d1, d2] => { results := [.lit (.bool true)], args := [d1, d2] }
  | _ => none }
def postCutsRow : OpenClaim := { program := "ytmllakklhbmboaa", sum := "c662b87b890faca46b96568217aea906e53afb078a4c53d2ff1c8e9589f51d8c", func := "colander/colanderlaw17.PostCuts", spec := "postCuts", unfollowed := true, recurses := true, apart := false }
def PostCutsSaid : Prop := postCutsRow.holds Try.pinned (OpenSpec.ofChange postCutsSpec)

/-- ITS FALSE NEIGHBOUR: 'it returns false'. Refute it at one input. -/
def postCutsWrong : ChangeSpec := { name := "postCuts", fn := fun _ => fun
  | [d1, d2] => { results := [.lit (.bool false)], args := [d1, d2] }
  | _ => none }
def PostCutsWrongFalsely : Prop := postCutsRow.holds Try.pinned (OpenSpec.ofChange postCutsWrong)

/- THE SECOND FORM. 'bulk': how many values and letters a reading holds, each counted each time it is reached (what is shared counts as often as it is met; a slice's spare places count too). A statement '..UptoSaid' is the law's where the arguments, and the package variables that the reading takes, are together of bulk at most 1048576: NARROWER than '..Said'. Prove '..Said' where nothing that the law and all that it calls make is longer than what came in: it says more and counts as full. Else prove '..UptoSaid'. A law counts once. -/
mutual
def uptoBulk {H : Type} : DataW H → Nat
  | .lit (.string bytes) => bytes.length + 1
  | .lit _ => 1
  | .nil => 1
  | .ptr d => uptoBulk d + 1
  | .slice elems spare => uptoBulkAll elems + uptoBulkAll spare + 1
  | .agg parts => uptoBulkAll parts + 1
  | .iface _ d => uptoBulk d + 1
  | .map entries => uptoBulkEntries entries + 1
  | .held _ => 1
def uptoBulkAll {H : Type} : List (DataW H) → Nat
  | [] => 0
  | d :: r => uptoBulk d + uptoBulkAll r
def uptoBulkEntries {H : Type} : List (Lit × DataW H) → Nat
  | [] => 0
  | x :: r => uptoBulkEntry x + uptoBulkEntries r
def uptoBulkEntry {H : Type} : Lit × DataW H → Nat
  | (.string bytes, d) => bytes.length + uptoBulk d + 1
  | (_, d) => uptoBulk d + 1
 end
def uptoSmall : (H : Type) → List (DataW H) → Bool := fun _ ds => decide (uptoBulkAll ds ≤ 1048576)
def OpenSpec.upto (s : _root_.Go.ChangeSpec) : _root_.Go.OpenSpec := { _root_.Go.OpenSpec.ofChange s with cond := some uptoSmall }

/-- 'colanderlaw12.TapeKeeps', WHERE WHAT IT READS IS OF BULK AT MOST 1048576: true; the input reads as it did. -/
def tapeKeepsUptoRow : OpenClaim := { program := "ytmllakklhbmboaa", sum := "c662b87b890faca46b96568217aea906e53afb078a4c53d2ff1c8e9589f51d8c", func := "colander/colanderlaw12.TapeKeeps", spec := "tapeKeeps", apart := false, narrowed := true }
def TapeKeepsUptoSaid : Prop := tapeKeepsUptoRow.holds Try.pinned (OpenSpec.upto tapeKeepsSpec)

/-- 'colanderlaw12.TapeOwn', WHERE WHAT IT READS IS OF BULK AT MOST 1048576: true; the input reads as it did. -/
def tapeOwnUptoRow : OpenClaim := { program := "ytmllakklhbmboaa", sum := "c662b87b890faca46b96568217aea906e53afb078a4c53d2ff1c8e9589f51d8c", func := "colander/colanderlaw12.TapeOwn", spec := "tapeOwn", apart := false, narrowed := true }
def TapeOwnUptoSaid : Prop := tapeOwnUptoRow.holds Try.pinned (OpenSpec.upto tapeOwnSpec)

/-- 'colanderlaw17.PostFull', WHERE WHAT IT READS IS OF BULK AT MOST 1048576: true; the input reads as it did. -/
def postFullUptoRow : OpenClaim := { program := "ytmllakklhbmboaa", sum := "c662b87b890faca46b96568217aea906e53afb078a4c53d2ff1c8e9589f51d8c", func := "colander/colanderlaw17.PostFull", spec := "postFull", apart := false, narrowed := true }
def PostFullUptoSaid : Prop := postFullUptoRow.holds Try.pinned (OpenSpec.upto postFullSpec)

/-- 'colanderlaw17.PostOrder', WHERE WHAT IT READS IS OF BULK AT MOST 1048576: true; the input reads as it did. -/
def postOrderUptoRow : OpenClaim := { program := "ytmllakklhbmboaa", sum := "c662b87b890faca46b96568217aea906e53afb078a4c53d2ff1c8e9589f51d8c", func := "colander/colanderlaw17.PostOrder", spec := "postOrder", apart := false, narrowed := true }
def PostOrderUptoSaid : Prop := postOrderUptoRow.holds Try.pinned (OpenSpec.upto postOrderSpec)

/-- 'colanderlaw12.TapeRoom', WHERE WHAT IT READS IS OF BULK AT MOST 1048576: true; the input reads as it did. -/
def tapeRoomUptoRow : OpenClaim := { program := "ytmllakklhbmboaa", sum := "c662b87b890faca46b96568217aea906e53afb078a4c53d2ff1c8e9589f51d8c", func := "colander/colanderlaw12.TapeRoom", spec := "tapeRoom", apart := false, narrowed := true }
def TapeRoomUptoSaid : Prop := tapeRoomUptoRow.holds Try.pinned (OpenSpec.upto tapeRoomSpec)

/-- 'colanderlaw12.TapeGrows', WHERE WHAT IT READS IS OF BULK AT MOST 1048576: true; the input reads as it did. -/
def tapeGrowsUptoRow : OpenClaim := { program := "ytmllakklhbmboaa", sum := "c662b87b890faca46b96568217aea906e53afb078a4c53d2ff1c8e9589f51d8c", func := "colander/colanderlaw12.TapeGrows", spec := "tapeGrows", apart := false, narrowed := true }
def TapeGrowsUptoSaid : Prop := tapeGrowsUptoRow.holds Try.pinned (OpenSpec.upto tapeGrowsSpec)

/-- 'colanderlaw12.TapePlays', WHERE WHAT IT READS IS OF BULK AT MOST 1048576: true; the input reads as it did. -/
def tapePlaysUptoRow : OpenClaim := { program := "ytmllakklhbmboaa", sum := "c662b87b890faca46b96568217aea906e53afb078a4c53d2ff1c8e9589f51d8c", func := "colander/colanderlaw12.TapePlays", spec := "tapePlays", apart := false, narrowed := true }
def TapePlaysUptoSaid : Prop := tapePlaysUptoRow.holds Try.pinned (OpenSpec.upto tapePlaysSpec)

/-- 'colanderlaw17.PostPlays', WHERE WHAT IT READS IS OF BULK AT MOST 1048576: true; the input reads as it did. -/
def postPlaysUptoRow : OpenClaim := { program := "ytmllakklhbmboaa", sum := "c662b87b890faca46b96568217aea906e53afb078a4c53d2ff1c8e9589f51d8c", func := "colander/colanderlaw17.PostPlays", spec := "postPlays", unfollowed := true, recurses := true, apart := false, narrowed := true }
def PostPlaysUptoSaid : Prop := postPlaysUptoRow.holds Try.pinned (OpenSpec.upto postPlaysSpec)

/-- 'colanderlaw17.PostCuts', WHERE WHAT IT READS IS OF BULK AT MOST 1048576: true; the input reads as it did. -/
def postCutsUptoRow : OpenClaim := { program := "ytmllakklhbmboaa", sum := "c662b87b890faca46b96568217aea906e53afb078a4c53d2ff1c8e9589f51d8c", func := "colander/colanderlaw17.PostCuts", spec := "postCuts", unfollowed := true, recurses := true, apart := false, narrowed := true }
def PostCutsUptoSaid : Prop := postCutsUptoRow.holds Try.pinned (OpenSpec.upto postCutsSpec)

end Rows
end Go.Proofs.Ytmllakklhbmboaa
