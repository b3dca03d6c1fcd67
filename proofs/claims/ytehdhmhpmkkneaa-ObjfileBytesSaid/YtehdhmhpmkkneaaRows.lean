/-
  No cell of these rows narrows 'for every input' (looked for: loops, veiled, ifaces, maps, wideKeys, modest, calm, conditions, laid).
  DERIVED. THE GIVEN ROWS OF THIS SEAT. 12 by the template 'for every input the law returns true; each argument reads behind the call as it read before'; 0 by the template 'total and deterministic' (their statements: YtehdhmhpmkkneaaTotals.lean).
  GIVEN WITH THE SEED: the statements are not yours to turn. If you find one false, say at which input.
  Laid BY PROGRAM, IN A SANDBOX (cutbox-rows.mjs): the forced cells as the released guide's own fill.sh prints them over the translation ec27f83ffd1639a1… (all of the seat's roots in one cut). By AI agents, Wed Nov 11 2026. No macro, syntax, notation, axiom, sorry.
-/
import Derived.Test.YtehdhmhpmkkneaaChecked
import GoSem.Claim
import GoSem.ClaimJoined
import GoSem.ClaimMapViews
import Derived.JoinedTies
import Derived.KernelRfl
namespace Go.Proofs.Ytehdhmhpmkkneaa
/- THE CELL 'sum', in the pinned program and in every row, IS THE sha256 OF THE DUMP (.gsa) THAT YtehdhmhpmkkneaaProg.lean LOADS. Nothing in Lean hashes anything: it is a label: what it is worth is what the hold of that sum in a sandbox is worth. -/
noncomputable def Try.pinned : Pinned := { name := "ytehdhmhpmkkneaa", sum := "ec27f83ffd1639a118d29e9f0f72389dac0fcea4388d59f01d5f0b23e0996a12", checked := Try.checked }
namespace Rows
def none {H : Type} : Left H := { results := [], args := [] }

/-- 'pascalinelaw12.CodecPuts': WHATEVER THE INPUT: true; the input reads as it did. -/
def codecPutsSpec : ChangeSpec := { name := "codecPuts", fn := fun _ => fun
  | [d] => { results := [.lit (.bool true)], args := [d] }
  | _ => none }
def codecPutsRow : OpenClaim := { program := "ytehdhmhpmkkneaa", sum := "ec27f83ffd1639a118d29e9f0f72389dac0fcea4388d59f01d5f0b23e0996a12", func := "pascaline/pascalinelaw12.CodecPuts", spec := "codecPuts", apart := false }
def CodecPutsSaid : Prop := codecPutsRow.holds Try.pinned (OpenSpec.ofChange codecPutsSpec)

/-- ITS FALSE NEIGHBOUR: 'it returns false'. Refute it at one input. -/
def codecPutsWrong : ChangeSpec := { name := "codecPuts", fn := fun _ => fun
  | [d] => { results := [.lit (.bool false)], args := [d] }
  | _ => none }
def CodecPutsWrongFalsely : Prop := codecPutsRow.holds Try.pinned (OpenSpec.ofChange codecPutsWrong)

/-- 'pascalinelaw13.FingerKeys': WHATEVER THE INPUT: true; the input reads as it did. -/
def fingerKeysSpec : ChangeSpec := { name := "fingerKeys", fn := fun _ => fun
  | [d1, d2] => { results := [.lit (.bool true)], args := [d1, d2] }
  | _ => none }
def fingerKeysRow : OpenClaim := { program := "ytehdhmhpmkkneaa", sum := "ec27f83ffd1639a118d29e9f0f72389dac0fcea4388d59f01d5f0b23e0996a12", func := "pascaline/pascalinelaw13.FingerKeys", spec := "fingerKeys", apart := false }
def FingerKeysSaid : Prop := fingerKeysRow.holds Try.pinned (OpenSpec.ofChange fingerKeysSpec)

/-- ITS FALSE NEIGHBOUR: 'it returns false'. Refute it at one input. -/
def fingerKeysWrong : ChangeSpec := { name := "fingerKeys", fn := fun _ => fun
  | [d1, d2] => { results := [.lit (.bool false)], args := [d1, d2] }
  | _ => none }
def FingerKeysWrongFalsely : Prop := fingerKeysRow.holds Try.pinned (OpenSpec.ofChange fingerKeysWrong)

/-- 'pascalinelaw13.FingerSame': WHATEVER THE INPUT: true; the input reads as it did. -/
def fingerSameSpec : ChangeSpec := { name := "fingerSame", fn := fun _ => fun
  | [d1, d2, d3] => { results := [.lit (.bool true)], args := [d1, d2, d3] }
  | _ => none }
def fingerSameRow : OpenClaim := { program := "ytehdhmhpmkkneaa", sum := "ec27f83ffd1639a118d29e9f0f72389dac0fcea4388d59f01d5f0b23e0996a12", func := "pascaline/pascalinelaw13.FingerSame", spec := "fingerSame", apart := false }
def FingerSameSaid : Prop := fingerSameRow.holds Try.pinned (OpenSpec.ofChange fingerSameSpec)

/-- ITS FALSE NEIGHBOUR: 'it returns false'. Refute it at one input. -/
def fingerSameWrong : ChangeSpec := { name := "fingerSame", fn := fun _ => fun
  | [d1, d2, d3] => { results := [.lit (.bool false)], args := [d1, d2, d3] }
  | _ => none }
def FingerSameWrongFalsely : Prop := fingerSameRow.holds Try.pinned (OpenSpec.ofChange fingerSameWrong)

/-- 'pascalinelaw13.FingerReads': WHATEVER THE INPUT: true; the input reads as it did. -/
def fingerReadsSpec : ChangeSpec := { name := "fingerReads", fn := fun _ => fun
  | [d] => { results := [.lit (.bool true)], args := [d] }
  | _ => none }
def fingerReadsRow : OpenClaim := { program := "ytehdhmhpmkkneaa", sum := "ec27f83ffd1639a118d29e9f0f72389dac0fcea4388d59f01d5f0b23e0996a12", func := "pascaline/pascalinelaw13.FingerReads", spec := "fingerReads", apart := false }
def FingerReadsSaid : Prop := fingerReadsRow.holds Try.pinned (OpenSpec.ofChange fingerReadsSpec)

/-- ITS FALSE NEIGHBOUR: 'it returns false'. Refute it at one input. -/
def fingerReadsWrong : ChangeSpec := { name := "fingerReads", fn := fun _ => fun
  | [d] => { results := [.lit (.bool false)], args := [d] }
  | _ => none }
def FingerReadsWrongFalsely : Prop := fingerReadsRow.holds Try.pinned (OpenSpec.ofChange fingerReadsWrong)

/-- 'pascalinelaw15.ObjfileChecks': WHATEVER THE INPUT: true; the input reads as it did. -/
def objfileChecksSpec : ChangeSpec := { name := "objfileChecks", fn := fun _ => fun
  | [d] => { results := [.lit (.bool true)], args := [d] }
  | _ => none }
def objfileChecksRow : OpenClaim := { program := "ytehdhmhpmkkneaa", sum := "ec27f83ffd1639a118d29e9f0f72389dac0fcea4388d59f01d5f0b23e0996a12", func := "pascaline/pascalinelaw15.ObjfileChecks", spec := "objfileChecks", apart := false }
def ObjfileChecksSaid : Prop := objfileChecksRow.holds Try.pinned (OpenSpec.ofChange objfileChecksSpec)

/-- ITS FALSE NEIGHBOUR: 'it returns false'. Refute it at one input. -/
def objfileChecksWrong : ChangeSpec := { name := "objfileChecks", fn := fun _ => fun
  | [d] => { results := [.lit (.bool false)], args := [d] }
  | _ => none }
def ObjfileChecksWrongFalsely : Prop := objfileChecksRow.holds Try.pinned (OpenSpec.ofChange objfileChecksWrong)

/-- 'pascalinelaw12.CodecOnce': WHATEVER THE INPUT: true; the input reads as it did. -/
def codecOnceSpec : ChangeSpec := { name := "codecOnce", fn := fun _ => fun
  | [d] => { results := [.lit (.bool true)], args := [d] }
  | _ => none }
def codecOnceRow : OpenClaim := { program := "ytehdhmhpmkkneaa", sum := "ec27f83ffd1639a118d29e9f0f72389dac0fcea4388d59f01d5f0b23e0996a12", func := "pascaline/pascalinelaw12.CodecOnce", spec := "codecOnce", apart := false }
def CodecOnceSaid : Prop := codecOnceRow.holds Try.pinned (OpenSpec.ofChange codecOnceSpec)

/-- ITS FALSE NEIGHBOUR: 'it returns false'. Refute it at one input. -/
def codecOnceWrong : ChangeSpec := { name := "codecOnce", fn := fun _ => fun
  | [d] => { results := [.lit (.bool false)], args := [d] }
  | _ => none }
def CodecOnceWrongFalsely : Prop := codecOnceRow.holds Try.pinned (OpenSpec.ofChange codecOnceWrong)

/-- 'pascalinelaw12.CodecBack': WHATEVER THE INPUT: true; the input reads as it did. -/
def codecBackSpec : ChangeSpec := { name := "codecBack", fn := fun _ => fun
  | [d] => { results := [.lit (.bool true)], args := [d] }
  | _ => none }
def codecBackRow : OpenClaim := { program := "ytehdhmhpmkkneaa", sum := "ec27f83ffd1639a118d29e9f0f72389dac0fcea4388d59f01d5f0b23e0996a12", func := "pascaline/pascalinelaw12.CodecBack", spec := "codecBack", apart := false }
def CodecBackSaid : Prop := codecBackRow.holds Try.pinned (OpenSpec.ofChange codecBackSpec)

/-- ITS FALSE NEIGHBOUR: 'it returns false'. Refute it at one input. -/
def codecBackWrong : ChangeSpec := { name := "codecBack", fn := fun _ => fun
  | [d] => { results := [.lit (.bool false)], args := [d] }
  | _ => none }
def CodecBackWrongFalsely : Prop := codecBackRow.holds Try.pinned (OpenSpec.ofChange codecBackWrong)

/-- 'pascalinelaw14.SymfileChecks': WHATEVER THE INPUT: true; the input reads as it did. -/
def symfileChecksSpec : ChangeSpec := { name := "symfileChecks", fn := fun _ => fun
  | [d] => { results := [.lit (.bool true)], args := [d] }
  | _ => none }
def symfileChecksRow : OpenClaim := { program := "ytehdhmhpmkkneaa", sum := "ec27f83ffd1639a118d29e9f0f72389dac0fcea4388d59f01d5f0b23e0996a12", func := "pascaline/pascalinelaw14.SymfileChecks", spec := "symfileChecks", apart := false }
def SymfileChecksSaid : Prop := symfileChecksRow.holds Try.pinned (OpenSpec.ofChange symfileChecksSpec)

/-- ITS FALSE NEIGHBOUR: 'it returns false'. Refute it at one input. -/
def symfileChecksWrong : ChangeSpec := { name := "symfileChecks", fn := fun _ => fun
  | [d] => { results := [.lit (.bool false)], args := [d] }
  | _ => none }
def SymfileChecksWrongFalsely : Prop := symfileChecksRow.holds Try.pinned (OpenSpec.ofChange symfileChecksWrong)

/-- 'pascalinelaw14.SymfileMakes': WHATEVER THE INPUT: true; the input reads as it did. -/
def symfileMakesSpec : ChangeSpec := { name := "symfileMakes", fn := fun _ => fun
  | [d1, d2] => { results := [.lit (.bool true)], args := [d1, d2] }
  | _ => none }
def symfileMakesRow : OpenClaim := { program := "ytehdhmhpmkkneaa", sum := "ec27f83ffd1639a118d29e9f0f72389dac0fcea4388d59f01d5f0b23e0996a12", func := "pascaline/pascalinelaw14.SymfileMakes", spec := "symfileMakes", apart := false }
def SymfileMakesSaid : Prop := symfileMakesRow.holds Try.pinned (OpenSpec.ofChange symfileMakesSpec)

/-- ITS FALSE NEIGHBOUR: 'it returns false'. Refute it at one input. -/
def symfileMakesWrong : ChangeSpec := { name := "symfileMakes", fn := fun _ => fun
  | [d1, d2] => { results := [.lit (.bool false)], args := [d1, d2] }
  | _ => none }
def SymfileMakesWrongFalsely : Prop := symfileMakesRow.holds Try.pinned (OpenSpec.ofChange symfileMakesWrong)

/-- 'pascalinelaw14.SymfileImports': WHATEVER THE INPUT: true; the input reads as it did. -/
def symfileImportsSpec : ChangeSpec := { name := "symfileImports", fn := fun _ => fun
  | [d1, d2] => { results := [.lit (.bool true)], args := [d1, d2] }
  | _ => none }
def symfileImportsRow : OpenClaim := { program := "ytehdhmhpmkkneaa", sum := "ec27f83ffd1639a118d29e9f0f72389dac0fcea4388d59f01d5f0b23e0996a12", func := "pascaline/pascalinelaw14.SymfileImports", spec := "symfileImports", apart := false }
def SymfileImportsSaid : Prop := symfileImportsRow.holds Try.pinned (OpenSpec.ofChange symfileImportsSpec)

/-- ITS FALSE NEIGHBOUR: 'it returns false'. Refute it at one input. -/
def symfileImportsWrong : ChangeSpec := { name := "symfileImports", fn := fun _ => fun
  | [d1, d2] => { results := [.lit (.bool false)], args := [d1, d2] }
  | _ => none }
def SymfileImportsWrongFalsely : Prop := symfileImportsRow.holds Try.pinned (OpenSpec.ofChange symfileImportsWrong)

/-- 'pascalinelaw15.ObjfileBytes': WHATEVER THE INPUT: true; the input reads as it did. -/
def objfileBytesSpec : ChangeSpec := { name := "objfileBytes", fn := fun _ => fun
  | [d] => { results := [.lit (.bool true)], args := [d] }
  | _ => none }
def objfileBytesRow : OpenClaim := { program := "ytehdhmhpmkkneaa", sum := "ec27f83ffd1639a118d29e9f0f72389dac0fcea4388d59f01d5f0b23e0996a12", func := "pascaline/pascalinelaw15.ObjfileBytes", spec := "objfileBytes", unfollowed := true, recurses := true, apart := false }
def ObjfileBytesSaid : Prop := objfileBytesRow.holds Try.pinned (OpenSpec.ofChange objfileBytesSpec)

/-- ITS FALSE NEIGHBOUR: 'it returns false'. Refute it at one input. -/
def objfileBytesWrong : ChangeSpec := { name := "objfileBytes", fn := fun _ => fun
  | [d] => { results := [.lit (.bool false)], args := [d] }
  | _ => none }
def ObjfileBytesWrongFalsely : Prop := objfileBytesRow.holds Try.pinned (OpenSpec.ofChange objfileBytesWrong)

/-- 'pascalinelaw14.SymfileBytes': WHATEVER THE INPUT: true; the input reads as it did. -/
def symfileBytesSpec : ChangeSpec := { name := "symfileBytes", fn := fun _ => fun
  | [d] => { results := [.lit (.bool true)], args := [d] }
  | _ => none }
def symfileBytesRow : OpenClaim := { program := "ytehdhmhpmkkneaa", sum := "ec27f83ffd1639a118d29e9f0f72389dac0fcea4388d59f01d5f0b23e0996a12", func := "pascaline/pascalinelaw14.SymfileBytes", spec := "symfileBytes", apart := false }
def SymfileBytesSaid : Prop := symfileBytesRow.holds Try.pinned (OpenSpec.ofChange symfileBytesSpec)

/-- ITS FALSE NEIGHBOUR: 'it returns false'. Refute it at one input. -/
def symfileBytesWrong : ChangeSpec := { name := "symfileBytes", fn := fun _ => fun
  | [d] => { results := [.lit (.bool false)], args := [d] }
  | _ => none }
def SymfileBytesWrongFalsely : Prop := symfileBytesRow.holds Try.pinned (OpenSpec.ofChange symfileBytesWrong)

/- THE SECOND FORM. 'bulk': how many values and letters a reading holds, each counted each time it is reached (what is shared counts as often as it is met; a slice's spare places count too). A statement '..UptoSaid' is the law's where the arguments, and the package variables that the reading takes, are together of bulk at most 1048576: NARROWER than '..Said'. Prove '..Said' where nothing that the law and all that it calls make is longer than what came in: it says more and counts as full. Else prove '..UptoSaid'. A law counts once. -/
mutual
def uptoBulk {H : Type} : DataW H → Nat
  | .lit (.string bytes) => bytes.length + 1
  | .lit _ => 1
  | .nil => 1
  | .ptr d => uptoBulk d + 1
  | .slice elems spare => uptoBulkAll elems + uptoBulkAll spare + 1
  | .agg parts => uptoBulkAll parts + 1
  | .iface _ d => uptoBulk d + 1
  | .map entries => uptoBulkEntries entries + 1
  | .held _ => 1
def uptoBulkAll {H : Type} : List (DataW H) → Nat
  | [] => 0
  | d :: r => uptoBulk d + uptoBulkAll r
def uptoBulkEntries {H : Type} : List (Lit × DataW H) → Nat
  | [] => 0
  | x :: r => uptoBulkEntry x + uptoBulkEntries r
def uptoBulkEntry {H : Type} : Lit × DataW H → Nat
  | (.string bytes, d) => bytes.length + uptoBulk d + 1
  | (_, d) => uptoBulk d + 1
 end
def uptoSmall : (H : Type) → List (DataW H) → Bool := fun _ ds => decide (uptoBulkAll ds ≤ 1048576)
def OpenSpec.upto (s : _root_.Go.ChangeSpec) : _root_.Go.OpenSpec := { _root_.Go.OpenSpec.ofChange s with cond := some uptoSmall }

/-- 'pascalinelaw12.CodecPuts', WHERE WHAT IT READS IS OF BULK AT MOST 1048576: true; the input reads as it did. -/
def codecPutsUptoRow : OpenClaim := { program := "ytehdhmhpmkkneaa", sum := "ec27f83ffd1639a118d29e9f0f72389dac0fcea4388d59f01d5f0b23e0996a12", func := "pascaline/pascalinelaw12.CodecPuts", spec := "codecPuts", apart := false, narrowed := true }
def CodecPutsUptoSaid : Prop := codecPutsUptoRow.holds Try.pinned (OpenSpec.upto codecPutsSpec)

/-- 'pascalinelaw13.FingerKeys', WHERE WHAT IT READS IS OF BULK AT MOST 1048576: true; the input reads as it did. -/
def fingerKeysUptoRow : OpenClaim := { program := "ytehdhmhpmkkneaa", sum := "ec27f83ffd1639a118d29e9f0f72389dac0fcea4388d59f01d5f0b23e0996a12", func := "pascaline/pascalinelaw13.FingerKeys", spec := "fingerKeys", apart := false, narrowed := true }
def FingerKeysUptoSaid : Prop := fingerKeysUptoRow.holds Try.pinned (OpenSpec.upto fingerKeysSpec)

/-- 'pascalinelaw13.FingerSame', WHERE WHAT IT READS IS OF BULK AT MOST 1048576: true; the input reads as it did. -/
def fingerSameUptoRow : OpenClaim := { program := "ytehdhmhpmkkneaa", sum := "ec27f83ffd1639a118d29e9f0f72389dac0fcea4388d59f01d5f0b23e0996a12", func := "pascaline/pascalinelaw13.FingerSame", spec := "fingerSame", apart := false, narrowed := true }
def FingerSameUptoSaid : Prop := fingerSameUptoRow.holds Try.pinned (OpenSpec.upto fingerSameSpec)

/-- 'pascalinelaw13.FingerReads', WHERE WHAT IT READS IS OF BULK AT MOST 1048576: true; the input reads as it did. -/
def fingerReadsUptoRow : OpenClaim := { program := "ytehdhmhpmkkneaa", sum := "ec27f83ffd1639a118d29e9f0f72389dac0fcea4388d59f01d5f0b23e0996a12", func := "pascaline/pascalinelaw13.FingerReads", spec := "fingerReads", apart := false, narrowed := true }
def FingerReadsUptoSaid : Prop := fingerReadsUptoRow.holds Try.pinned (OpenSpec.upto fingerReadsSpec)

/-- 'pascalinelaw15.ObjfileChecks', WHERE WHAT IT READS IS OF BULK AT MOST 1048576: true; the input reads as it did. -/
def objfileChecksUptoRow : OpenClaim := { program := "ytehdhmhpmkkneaa", sum := "ec27f83ffd1639a118d29e9f0f72389dac0fcea4388d59f01d5f0b23e0996a12", func := "pascaline/pascalinelaw15.ObjfileChecks", spec := "objfileChecks", apart := false, narrowed := true }
def ObjfileChecksUptoSaid : Prop := objfileChecksUptoRow.holds Try.pinned (OpenSpec.upto objfileChecksSpec)

/-- 'pascalinelaw12.CodecOnce', WHERE WHAT IT READS IS OF BULK AT MOST 1048576: true; the input reads as it did. -/
def codecOnceUptoRow : OpenClaim := { program := "ytehdhmhpmkkneaa", sum := "ec27f83ffd1639a118d29e9f0f72389dac0fcea4388d59f01d5f0b23e0996a12", func := "pascaline/pascalinelaw12.CodecOnce", spec := "codecOnce", apart := false, narrowed := true }
def CodecOnceUptoSaid : Prop := codecOnceUptoRow.holds Try.pinned (OpenSpec.upto codecOnceSpec)

/-- 'pascalinelaw12.CodecBack', WHERE WHAT IT READS IS OF BULK AT MOST 1048576: true; the input reads as it did. -/
def codecBackUptoRow : OpenClaim := { program := "ytehdhmhpmkkneaa", sum := "ec27f83ffd1639a118d29e9f0f72389dac0fcea4388d59f01d5f0b23e0996a12", func := "pascaline/pascalinelaw12.CodecBack", spec := "codecBack", apart := false, narrowed := true }
def CodecBackUptoSaid : Prop := codecBackUptoRow.holds Try.pinned (OpenSpec.upto codecBackSpec)

/-- 'pascalinelaw14.SymfileChecks', WHERE WHAT IT READS IS OF BULK AT MOST 1048576: true; the input reads as it did. -/
def symfileChecksUptoRow : OpenClaim := { program := "ytehdhmhpmkkneaa", sum := "ec27f83ffd1639a118d29e9f0f72389dac0fcea4388d59f01d5f0b23e0996a12", func := "pascaline/pascalinelaw14.SymfileChecks", spec := "symfileChecks", apart := false, narrowed := true }
def SymfileChecksUptoSaid : Prop := symfileChecksUptoRow.holds Try.pinned (OpenSpec.upto symfileChecksSpec)

/-- 'pascalinelaw14.SymfileMakes', WHERE WHAT IT READS IS OF BULK AT MOST 1048576: true; the input reads as it did. -/
def symfileMakesUptoRow : OpenClaim := { program := "ytehdhmhpmkkneaa", sum := "ec27f83ffd1639a118d29e9f0f72389dac0fcea4388d59f01d5f0b23e0996a12", func := "pascaline/pascalinelaw14.SymfileMakes", spec := "symfileMakes", apart := false, narrowed := true }
def SymfileMakesUptoSaid : Prop := symfileMakesUptoRow.holds Try.pinned (OpenSpec.upto symfileMakesSpec)

/-- 'pascalinelaw14.SymfileImports', WHERE WHAT IT READS IS OF BULK AT MOST 1048576: true; the input reads as it did. -/
def symfileImportsUptoRow : OpenClaim := { program := "ytehdhmhpmkkneaa", sum := "ec27f83ffd1639a118d29e9f0f72389dac0fcea4388d59f01d5f0b23e0996a12", func := "pascaline/pascalinelaw14.SymfileImports", spec := "symfileImports", apart := false, narrowed := true }
def SymfileImportsUptoSaid : Prop := symfileImportsUptoRow.holds Try.pinned (OpenSpec.upto symfileImportsSpec)

/-- 'pascalinelaw15.ObjfileBytes', WHERE WHAT IT READS IS OF BULK AT MOST 1048576: true; the input reads as it did. -/
def objfileBytesUptoRow : OpenClaim := { program := "ytehdhmhpmkkneaa", sum := "ec27f83ffd1639a118d29e9f0f72389dac0fcea4388d59f01d5f0b23e0996a12", func := "pascaline/pascalinelaw15.ObjfileBytes", spec := "objfileBytes", unfollowed := true, recurses := true, apart := false, narrowed := true }
def ObjfileBytesUptoSaid : Prop := objfileBytesUptoRow.holds Try.pinned (OpenSpec.upto objfileBytesSpec)

/-- 'pascalinelaw14.SymfileBytes', WHERE WHAT IT READS IS OF BULK AT MOST 1048576: true; the input reads as it did. -/
def symfileBytesUptoRow : OpenClaim := { program := "ytehdhmhpmkkneaa", sum := "ec27f83ffd1639a118d29e9f0f72389dac0fcea4388d59f01d5f0b23e0996a12", func := "pascaline/pascalinelaw14.SymfileBytes", spec := "symfileBytes", apart := false, narrowed := true }
def SymfileBytesUptoSaid : Prop := symfileBytesUptoRow.holds Try.pinned (OpenSpec.upto symfileBytesSpec)

end Rows
end Go.Proofs.Ytehdhmhpmkkneaa
