/-
  No cell of these rows narrows 'for every input' (looked for: loops, veiled, ifaces, maps, wideKeys, modest, calm, conditions, laid).
  DERIVED. THE GIVEN ROWS OF THIS SEAT. 7 by the template 'for every input the law returns true; each argument reads behind the call as it read before'; 0 by the template 'total and deterministic' (their statements: YtcmfgijdelaelaaTotals.lean).
  GIVEN WITH THE SEED: the statements are not yours to turn. If you find one false, say at which input.
  Laid BY PROGRAM, IN A SANDBOX (cutbox-rows.mjs): the forced cells as the released guide's own fill.sh prints them over the translation 433517ba10d45ccc… (all of the seat's roots in one cut). By AI agents, Wed Nov 11 2026. No macro, syntax, notation, axiom, sorry.
-/
import Derived.Test.YtcmfgijdelaelaaChecked
import GoSem.Claim
import GoSem.ClaimJoined
import GoSem.ClaimMapViews
import Derived.JoinedTies
import Derived.KernelRfl
namespace Go.Proofs.Ytcmfgijdelaelaa
/- THE CELL 'sum', in the pinned program and in every row, IS THE sha256 OF THE DUMP (.gsa) THAT YtcmfgijdelaelaaProg.lean LOADS. Nothing in Lean hashes anything: it is a label: what it is worth is what the hold of that sum in a sandbox is worth. -/
noncomputable def Try.pinned : Pinned := { name := "ytcmfgijdelaelaa", sum := "433517ba10d45ccca84ace8eaa0e3857df9330165fbcb39a56d870ecfa06a203", checked := Try.checked }
namespace Rows
def none {H : Type} : Left H := { results := [], args := [] }

/-- 'colanderlaw11.PackRecords': WHATEVER THE INPUT: true; the input reads as it did. -/
def packRecordsSpec : ChangeSpec := { name := "packRecords", fn := fun _ => fun
  | [d1, d2] => { results := [.lit (.bool true)], args := [d1, d2] }
  | _ => none }
def packRecordsRow : OpenClaim := { program := "ytcmfgijdelaelaa", sum := "433517ba10d45ccca84ace8eaa0e3857df9330165fbcb39a56d870ecfa06a203", func := "colander/colanderlaw11.PackRecords", spec := "packRecords", unfollowed := true, recurses := true, apart := false }
def PackRecordsSaid : Prop := packRecordsRow.holds Try.pinned (OpenSpec.ofChange packRecordsSpec)

/-- ITS FALSE NEIGHBOUR: 'it returns false'. Refute it at one input. -/
def packRecordsWrong : ChangeSpec := { name := "packRecords", fn := fun _ => fun
  | [d1, d2] => { results := [.lit (.bool false)], args := [d1, d2] }
  | _ => none }
def PackRecordsWrongFalsely : Prop := packRecordsRow.holds Try.pinned (OpenSpec.ofChange packRecordsWrong)

/-- 'colanderlaw11.PackUnlike': WHATEVER THE INPUT: true; the input reads as it did. -/
def packUnlikeSpec : ChangeSpec := { name := "packUnlike", fn := fun _ => fun
  | [d1, d2] => { results := [.lit (.bool true)], args := [d1, d2] }
  | _ => none }
def packUnlikeRow : OpenClaim := { program := "ytcmfgijdelaelaa", sum := "433517ba10d45ccca84ace8eaa0e3857df9330165fbcb39a56d870ecfa06a203", func := "colander/colanderlaw11.PackUnlike", spec := "packUnlike", unfollowed := true, recurses := true, apart := false }
def PackUnlikeSaid : Prop := packUnlikeRow.holds Try.pinned (OpenSpec.ofChange packUnlikeSpec)

/-- ITS FALSE NEIGHBOUR: 'it returns false'. Refute it at one input. -/
def packUnlikeWrong : ChangeSpec := { name := "packUnlike", fn := fun _ => fun
  | [d1, d2] => { results := [.lit (.bool false)], args := [d1, d2] }
  | _ => none }
def PackUnlikeWrongFalsely : Prop := packUnlikeRow.holds Try.pinned (OpenSpec.ofChange packUnlikeWrong)

/-- 'colanderlaw11.PackMessages': WHATEVER THE INPUT: true; the input reads as it did. -/
def packMessagesSpec : ChangeSpec := { name := "packMessages", fn := fun _ => fun
  | [d] => { results := [.lit (.bool true)], args := [d] }
  | _ => none }
def packMessagesRow : OpenClaim := { program := "ytcmfgijdelaelaa", sum := "433517ba10d45ccca84ace8eaa0e3857df9330165fbcb39a56d870ecfa06a203", func := "colander/colanderlaw11.PackMessages", spec := "packMessages", unfollowed := true, recurses := true, apart := false }
def PackMessagesSaid : Prop := packMessagesRow.holds Try.pinned (OpenSpec.ofChange packMessagesSpec)

/-- ITS FALSE NEIGHBOUR: 'it returns false'. Refute it at one input. -/
def packMessagesWrong : ChangeSpec := { name := "packMessages", fn := fun _ => fun
  | [d] => { results := [.lit (.bool false)], args := [d] }
  | _ => none }
def PackMessagesWrongFalsely : Prop := packMessagesRow.holds Try.pinned (OpenSpec.ofChange packMessagesWrong)

/-- 'colanderlaw11.PackReads': WHATEVER THE INPUT: true; the input reads as it did. -/
def packReadsSpec : ChangeSpec := { name := "packReads", fn := fun _ => fun
  | [d] => { results := [.lit (.bool true)], args := [d] }
  | _ => none }
def packReadsRow : OpenClaim := { program := "ytcmfgijdelaelaa", sum := "433517ba10d45ccca84ace8eaa0e3857df9330165fbcb39a56d870ecfa06a203", func := "colander/colanderlaw11.PackReads", spec := "packReads", unfollowed := true, recurses := true, apart := false }
def PackReadsSaid : Prop := packReadsRow.holds Try.pinned (OpenSpec.ofChange packReadsSpec)

/-- ITS FALSE NEIGHBOUR: 'it returns false'. Refute it at one input. -/
def packReadsWrong : ChangeSpec := { name := "packReads", fn := fun _ => fun
  | [d] => { results := [.lit (.bool false)], args := [d] }
  | _ => none }
def PackReadsWrongFalsely : Prop := packReadsRow.holds Try.pinned (OpenSpec.ofChange packReadsWrong)

/-- 'colanderlaw11.PackCuts': WHATEVER THE INPUT: true; the input reads as it did. -/
def packCutsSpec : ChangeSpec := { name := "packCuts", fn := fun _ => fun
  | [d1, d2, d3] => { results := [.lit (.bool true)], args := [d1, d2, d3] }
  | _ => none }
def packCutsRow : OpenClaim := { program := "ytcmfgijdelaelaa", sum := "433517ba10d45ccca84ace8eaa0e3857df9330165fbcb39a56d870ecfa06a203", func := "colander/colanderlaw11.PackCuts", spec := "packCuts", unfollowed := true, recurses := true, apart := false }
def PackCutsSaid : Prop := packCutsRow.holds Try.pinned (OpenSpec.ofChange packCutsSpec)

/-- ITS FALSE NEIGHBOUR: 'it returns false'. Refute it at one input. -/
def packCutsWrong : ChangeSpec := { name := "packCuts", fn := fun _ => fun
  | [d1, d2, d3] => { results := [.lit (.bool false)], args := [d1, d2, d3] }
  | _ => none }
def PackCutsWrongFalsely : Prop := packCutsRow.holds Try.pinned (OpenSpec.ofChange packCutsWrong)

/-- 'colanderlaw11.PackOwn': WHATEVER THE INPUT: true; the input reads as it did. -/
def packOwnSpec : ChangeSpec := { name := "packOwn", fn := fun _ => fun
  | [d] => { results := [.lit (.bool true)], args := [d] }
  | _ => none }
def packOwnRow : OpenClaim := { program := "ytcmfgijdelaelaa", sum := "433517ba10d45ccca84ace8eaa0e3857df9330165fbcb39a56d870ecfa06a203", func := "colander/colanderlaw11.PackOwn", spec := "packOwn", unfollowed := true, recurses := true, apart := false }
def PackOwnSaid : Prop := packOwnRow.holds Try.pinned (OpenSpec.ofChange packOwnSpec)

/-- ITS FALSE NEIGHBOUR: 'it returns false'. Refute it at one input. -/
def packOwnWrong : ChangeSpec := { name := "packOwn", fn := fun _ => fun
  | [d] => { results := [.lit (.bool false)], args := [d] }
  | _ => none }
def PackOwnWrongFalsely : Prop := packOwnRow.holds Try.pinned (OpenSpec.ofChange packOwnWrong)

/-- 'colanderlaw11.PackSame': WHATEVER THE INPUT: true; the input reads as it did. -/
def packSameSpec : ChangeSpec := { name := "packSame", fn := fun _ => fun
  | [d1, d2] => { results := [.lit (.bool true)], args := [d1, d2] }
  | _ => none }
def packSameRow : OpenClaim := { program := "ytcmfgijdelaelaa", sum := "433517ba10d45ccca84ace8eaa0e3857df9330165fbcb39a56d870ecfa06a203", func := "colander/colanderlaw11.PackSame", spec := "packSame", unfollowed := true, recurses := true, apart := false }
def PackSameSaid : Prop := packSameRow.holds Try.pinned (OpenSpec.ofChange packSameSpec)

/-- ITS FALSE NEIGHBOUR: 'it returns false'. Refute it at one input. -/
def packSameWrong : ChangeSpec := { name := "packSame", fn := fun _ => fun
  | [d1, d2] => { results := [.lit (.bool false)], args := [d1, d2] }
  | _ => none }
def PackSameWrongFalsely : Prop := packSameRow.holds Try.pinned (OpenSpec.ofChange packSameWrong)

/- THE SECOND FORM. 'bulk': how many values and letters a reading holds, each counted each time it is reached (what is shared counts as often as it is met; a slice's spare places count too). A statement '..UptoSaid' is the law's where the arguments, and the package variables that the reading takes, are together of bulk at most 1048576: NARROWER than '..Said'. Prove '..Said' where nothing that the law and all that it calls make is longer than what came in: it says more and counts as full. Else prove '..UptoSaid'. A law counts once. -/
mutual
def uptoBulk {H : Type} : DataW H → Nat
  | .lit (.string bytes) => bytes.length + 1
  | .lit _ => 1
  | .nil => 1
  | .ptr d => uptoBulk d + 1
  | .slice elems spare => uptoBulkAll elems + uptoBulkAll spare + 1
  | .agg parts => uptoBulkAll parts + 1
  | .iface _ d => uptoBulk d + 1
  | .map entries => uptoBulkEntries entries + 1
  | .held _ => 1
def uptoBulkAll {H : Type} : List (DataW H) → Nat
  | [] => 0
  | d :: r => uptoBulk d + uptoBulkAll r
def uptoBulkEntries {H : Type} : List (Lit × DataW H) → Nat
  | [] => 0
  | x :: r => uptoBulkEntry x + uptoBulkEntries r
def uptoBulkEntry {H : Type} : Lit × DataW H → Nat
  | (.string bytes, d) => bytes.length + uptoBulk d + 1
  | (_, d) => uptoBulk d + 1
 end
def uptoSmall : (H : Type) → List (DataW H) → Bool := fun _ ds => decide (uptoBulkAll ds ≤ 1048576)
def OpenSpec.upto (s : _root_.Go.ChangeSpec) : _root_.Go.OpenSpec := { _root_.Go.OpenSpec.ofChange s with cond := some uptoSmall }

/-- 'colanderlaw11.PackRecords', WHERE WHAT IT READS IS OF BULK AT MOST 1048576: true; the input reads as it did. -/
def packRecordsUptoRow : OpenClaim := { program := "ytcmfgijdelaelaa", sum := "433517ba10d45ccca84ace8eaa0e3857df9330165fbcb39a56d870ecfa06a203", func := "colander/colanderlaw11.PackRecords", spec := "packRecords", unfollowed := true, recurses := true, apart := false, narrowed := true }
def PackRecordsUptoSaid : Prop := packRecordsUptoRow.holds Try.pinned (OpenSpec.upto packRecordsSpec)

/-- 'colanderlaw11.PackUnlike', WHERE WHAT IT READS IS OF BULK AT MOST 1048576: true; the input reads as it did. -/
def packUnlikeUptoRow : OpenClaim := { program := "ytcmfgijdelaelaa", sum := "433517ba10d45ccca84ace8eaa0e3857df9330165fbcb39a56d870ecfa06a203", func := "colander/colanderlaw11.PackUnlike", spec := "packUnlike", unfollowed := true, recurses := true, apart := false, narrowed := true }
def PackUnlikeUptoSaid : Prop := packUnlikeUptoRow.holds Try.pinned (OpenSpec.upto packUnlikeSpec)

/-- 'colanderlaw11.PackMessages', WHERE WHAT IT READS IS OF BULK AT MOST 1048576: true; the input reads as it did. -/
def packMessagesUptoRow : OpenClaim := { program := "ytcmfgijdelaelaa", sum := "433517ba10d45ccca84ace8eaa0e3857df9330165fbcb39a56d870ecfa06a203", func := "colander/colanderlaw11.PackMessages", spec := "packMessages", unfollowed := true, recurses := true, apart := false, narrowed := true }
def PackMessagesUptoSaid : Prop := packMessagesUptoRow.holds Try.pinned (OpenSpec.upto packMessagesSpec)

/-- 'colanderlaw11.PackReads', WHERE WHAT IT READS IS OF BULK AT MOST 1048576: true; the input reads as it did. -/
def packReadsUptoRow : OpenClaim := { program := "ytcmfgijdelaelaa", sum := "433517ba10d45ccca84ace8eaa0e3857df9330165fbcb39a56d870ecfa06a203", func := "colander/colanderlaw11.PackReads", spec := "packReads", unfollowed := true, recurses := true, apart := false, narrowed := true }
def PackReadsUptoSaid : Prop := packReadsUptoRow.holds Try.pinned (OpenSpec.upto packReadsSpec)

/-- 'colanderlaw11.PackCuts', WHERE WHAT IT READS IS OF BULK AT MOST 1048576: true; the input reads as it did. -/
def packCutsUptoRow : OpenClaim := { program := "ytcmfgijdelaelaa", sum := "433517ba10d45ccca84ace8eaa0e3857df9330165fbcb39a56d870ecfa06a203", func := "colander/colanderlaw11.PackCuts", spec := "packCuts", unfollowed := true, recurses := true, apart := false, narrowed := true }
def PackCutsUptoSaid : Prop := packCutsUptoRow.holds Try.pinned (OpenSpec.upto packCutsSpec)

/-- 'colanderlaw11.PackOwn', WHERE WHAT IT READS IS OF BULK AT MOST 1048576: true; the input reads as it did. -/
def packOwnUptoRow : OpenClaim := { program := "ytcmfgijdelaelaa", sum := "433517ba10d45ccca84ace8eaa0e3857df9330165fbcb39a56d870ecfa06a203", func := "colander/colanderlaw11.PackOwn", spec := "packOwn", unfollowed := true, recurses := true, apart := false, narrowed := true }
def PackOwnUptoSaid : Prop := packOwnUptoRow.holds Try.pinned (OpenSpec.upto packOwnSpec)

/-- 'colanderlaw11.PackSame', WHERE WHAT IT READS IS OF BULK AT MOST 1048576: true; the input reads as it did. -/
def packSameUptoRow : OpenClaim := { program := "ytcmfgijdelaelaa", sum := "433517ba10d45ccca84ace8eaa0e3857df9330165fbcb39a56d870ecfa06a203", func := "colander/colanderlaw11.PackSame", spec := "packSame", unfollowed := true, recurses := true, apart := false, narrowed := true }
def PackSameUptoSaid : Prop := packSameUptoRow.holds Try.pinned (OpenSpec.upto packSameSpec)

end Rows
end Go.Proofs.Ytcmfgijdelaelaa
