/-
  No cell of these rows narrows 'for every input' (looked for: loops, veiled, ifaces, maps, wideKeys, modest, calm, conditions, laid).
  DERIVED. THE GIVEN ROWS OF THIS SEAT. 7 by the template 'for every input the law returns true; each argument reads behind the call as it read before'; 0 by the template 'total and deterministic' (their statements: YtekbdafjdljdbaaTotals.lean).
  GIVEN WITH THE SEED: the statements are not yours to turn. If you find one false, say at which input.
  Laid BY PROGRAM, IN A SANDBOX (cutbox-rows.mjs): the forced cells as the released guide's own fill.sh prints them over the translation 674a72b474854f32… (all of the seat's roots in one cut). By AI agents, Wed Nov 11 2026. No macro, syntax, notation, axiom, sorry.
-/
import Derived.Test.YtekbdafjdljdbaaChecked
import GoSem.Claim
import GoSem.ClaimJoined
import GoSem.ClaimMapViews
import Derived.JoinedTies
import Derived.KernelRfl
namespace Go.Proofs.Ytekbdafjdljdbaa
/- THE CELL 'sum', in the pinned program and in every row, IS THE sha256 OF THE DUMP (.gsa) THAT YtekbdafjdljdbaaProg.lean LOADS. Nothing in Lean hashes anything: it is a label: what it is worth is what the hold of that sum in a sandbox is worth. -/
noncomputable def Try.pinned : Pinned := { name := "ytekbdafjdljdbaa", sum := "674a72b474854f321a59a1f53d6b566490dd96bfe06de047c29c7e62bbefe3c0", checked := Try.checked }
namespace Rows
def none {H : Type} : Left H := { results := [], args := [] }

/-- 'pascalinelaw13.FingerSums': WHATEVER THE INPUT: true; the input reads as it did. -/
def fingerSumsSpec : ChangeSpec := { name := "fingerSums", fn := fun _ => fun
  | [d1, d2] => { results := [.lit (.bool true)], args := [d1, d2] }
  | _ => none }
def fingerSumsRow : OpenClaim := { program := "ytekbdafjdljdbaa", sum := "674a72b474854f321a59a1f53d6b566490dd96bfe06de047c29c7e62bbefe3c0", func := "pascaline/pascalinelaw13.FingerSums", spec := "fingerSums", apart := false }
def FingerSumsSaid : Prop := fingerSumsRow.holds Try.pinned (OpenSpec.ofChange fingerSumsSpec)

/-- ITS FALSE NEIGHBOUR: 'it returns false'. Refute it at one input. -/
def fingerSumsWrong : ChangeSpec := { name := "fingerSums", fn := fun _ => fun
  | [d1, d2] => { results := [.lit (.bool false)], args := [d1, d2] }
  | _ => none }
def FingerSumsWrongFalsely : Prop := fingerSumsRow.holds Try.pinned (OpenSpec.ofChange fingerSumsWrong)

/-- 'pascalinelaw12.CodecPuts': WHATEVER THE INPUT: true; the input reads as it did. -/
def codecPutsSpec : ChangeSpec := { name := "codecPuts", fn := fun _ => fun
  | [d] => { results := [.lit (.bool true)], args := [d] }
  | _ => none }
def codecPutsRow : OpenClaim := { program := "ytekbdafjdljdbaa", sum := "674a72b474854f321a59a1f53d6b566490dd96bfe06de047c29c7e62bbefe3c0", func := "pascaline/pascalinelaw12.CodecPuts", spec := "codecPuts", apart := false }
def CodecPutsSaid : Prop := codecPutsRow.holds Try.pinned (OpenSpec.ofChange codecPutsSpec)

/-- ITS FALSE NEIGHBOUR: 'it returns false'. Refute it at one input. -/
def codecPutsWrong : ChangeSpec := { name := "codecPuts", fn := fun _ => fun
  | [d] => { results := [.lit (.bool false)], args := [d] }
  | _ => none }
def CodecPutsWrongFalsely : Prop := codecPutsRow.holds Try.pinned (OpenSpec.ofChange codecPutsWrong)

/-- 'pascalinelaw13.FingerKeys': WHATEVER THE INPUT: true; the input reads as it did. -/
def fingerKeysSpec : ChangeSpec := { name := "fingerKeys", fn := fun _ => fun
  | [d1, d2] => { results := [.lit (.bool true)], args := [d1, d2] }
  | _ => none }
def fingerKeysRow : OpenClaim := { program := "ytekbdafjdljdbaa", sum := "674a72b474854f321a59a1f53d6b566490dd96bfe06de047c29c7e62bbefe3c0", func := "pascaline/pascalinelaw13.FingerKeys", spec := "fingerKeys", apart := false }
def FingerKeysSaid : Prop := fingerKeysRow.holds Try.pinned (OpenSpec.ofChange fingerKeysSpec)

/-- ITS FALSE NEIGHBOUR: 'it returns false'. Refute it at one input. -/
def fingerKeysWrong : ChangeSpec := { name := "fingerKeys", fn := fun _ => fun
  | [d1, d2] => { results := [.lit (.bool false)], args := [d1, d2] }
  | _ => none }
def FingerKeysWrongFalsely : Prop := fingerKeysRow.holds Try.pinned (OpenSpec.ofChange fingerKeysWrong)

/-- 'pascalinelaw13.FingerSame': WHATEVER THE INPUT: true; the input reads as it did. -/
def fingerSameSpec : ChangeSpec := { name := "fingerSame", fn := fun _ => fun
  | [d1, d2, d3] => { results := [.lit (.bool true)], args := [d1, d2, d3] }
  | _ => none }
def fingerSameRow : OpenClaim := { program := "ytekbdafjdljdbaa", sum := "674a72b474854f321a59a1f53d6b566490dd96bfe06de047c29c7e62bbefe3c0", func := "pascaline/pascalinelaw13.FingerSame", spec := "fingerSame", apart := false }
def FingerSameSaid : Prop := fingerSameRow.holds Try.pinned (OpenSpec.ofChange fingerSameSpec)

/-- ITS FALSE NEIGHBOUR: 'it returns false'. Refute it at one input. -/
def fingerSameWrong : ChangeSpec := { name := "fingerSame", fn := fun _ => fun
  | [d1, d2, d3] => { results := [.lit (.bool false)], args := [d1, d2, d3] }
  | _ => none }
def FingerSameWrongFalsely : Prop := fingerSameRow.holds Try.pinned (OpenSpec.ofChange fingerSameWrong)

/-- 'pascalinelaw13.FingerReads': WHATEVER THE INPUT: true; the input reads as it did. -/
def fingerReadsSpec : ChangeSpec := { name := "fingerReads", fn := fun _ => fun
  | [d] => { results := [.lit (.bool true)], args := [d] }
  | _ => none }
def fingerReadsRow : OpenClaim := { program := "ytekbdafjdljdbaa", sum := "674a72b474854f321a59a1f53d6b566490dd96bfe06de047c29c7e62bbefe3c0", func := "pascaline/pascalinelaw13.FingerReads", spec := "fingerReads", apart := false }
def FingerReadsSaid : Prop := fingerReadsRow.holds Try.pinned (OpenSpec.ofChange fingerReadsSpec)

/-- ITS FALSE NEIGHBOUR: 'it returns false'. Refute it at one input. -/
def fingerReadsWrong : ChangeSpec := { name := "fingerReads", fn := fun _ => fun
  | [d] => { results := [.lit (.bool false)], args := [d] }
  | _ => none }
def FingerReadsWrongFalsely : Prop := fingerReadsRow.holds Try.pinned (OpenSpec.ofChange fingerReadsWrong)

/-- 'pascalinelaw12.CodecOnce': WHATEVER THE INPUT: true; the input reads as it did. -/
def codecOnceSpec : ChangeSpec := { name := "codecOnce", fn := fun _ => fun
  | [d] => { results := [.lit (.bool true)], args := [d] }
  | _ => none }
def codecOnceRow : OpenClaim := { program := "ytekbdafjdljdbaa", sum := "674a72b474854f321a59a1f53d6b566490dd96bfe06de047c29c7e62bbefe3c0", func := "pascaline/pascalinelaw12.CodecOnce", spec := "codecOnce", apart := false }
def CodecOnceSaid : Prop := codecOnceRow.holds Try.pinned (OpenSpec.ofChange codecOnceSpec)

/-- ITS FALSE NEIGHBOUR: 'it returns false'. Refute it at one input. -/
def codecOnceWrong : ChangeSpec := { name := "codecOnce", fn := fun _ => fun
  | [d] => { results := [.lit (.bool false)], args := [d] }
  | _ => none }
def CodecOnceWrongFalsely : Prop := codecOnceRow.holds Try.pinned (OpenSpec.ofChange codecOnceWrong)

/-- 'pascalinelaw12.CodecBack': WHATEVER THE INPUT: true; the input reads as it did. -/
def codecBackSpec : ChangeSpec := { name := "codecBack", fn := fun _ => fun
  | [d] => { results := [.lit (.bool true)], args := [d] }
  | _ => none }
def codecBackRow : OpenClaim := { program := "ytekbdafjdljdbaa", sum := "674a72b474854f321a59a1f53d6b566490dd96bfe06de047c29c7e62bbefe3c0", func := "pascaline/pascalinelaw12.CodecBack", spec := "codecBack", apart := false }
def CodecBackSaid : Prop := codecBackRow.holds Try.pinned (OpenSpec.ofChange codecBackSpec)

/-- ITS FALSE NEIGHBOUR: 'it returns false'. Refute it at one input. -/
def codecBackWrong : ChangeSpec := { name := "codecBack", fn := fun _ => fun
  | [d] => { results := [.lit (.bool false)], args := [d] }
  | _ => none }
def CodecBackWrongFalsely : Prop := codecBackRow.holds Try.pinned (OpenSpec.ofChange codecBackWrong)

/- THE SECOND FORM. 'bulk': how many values and letters a reading holds, each counted each time it is reached (what is shared counts as often as it is met; a slice's spare places count too). A statement '..UptoSaid' is the law's where the arguments, and the package variables that the reading takes, are together of bulk at most 1048576: NARROWER than '..Said'. Prove '..Said' where nothing that the law and all that it calls make is longer than what came in: it says more and counts as full. Else prove '..UptoSaid'. A law counts once. -/
mutual
def uptoBulk {H : Type} : DataW H → Nat
  | .lit (.string bytes) => bytes.length + 1
  | .lit _ => 1
  | .nil => 1
  | .ptr d => uptoBulk d + 1
  | .slice elems spare => uptoBulkAll elems + uptoBulkAll spare + 1
  | .agg parts => uptoBulkAll parts + 1
  | .iface _ d => uptoBulk d + 1
  | .map entries => uptoBulkEntries entries + 1
  | .held _ => 1
def uptoBulkAll {H : Type} : List (DataW H) → Nat
  | [] => 0
  | d :: r => uptoBulk d + uptoBulkAll r
def uptoBulkEntries {H : Type} : List (Lit × DataW H) → Nat
  | [] => 0
  | x :: r => uptoBulkEntry x + uptoBulkEntries r
def uptoBulkEntry {H : Type} : Lit × DataW H → Nat
  | (.string bytes, d) => bytes.length + uptoBulk d + 1
  | (_, d) => uptoBulk d + 1
 end
def uptoSmall : (H : Type) → List (DataW H) → Bool := fun _ ds => decide (uptoBulkAll ds ≤ 1048576)
def OpenSpec.upto (s : _root_.Go.ChangeSpec) : _root_.Go.OpenSpec := { _root_.Go.OpenSpec.ofChange s with cond := some uptoSmall }

/-- 'pascalinelaw13.FingerSums', WHERE WHAT IT READS IS OF BULK AT MOST 1048576: true; the input reads as it did. -/
def fingerSumsUptoRow : OpenClaim := { program := "ytekbdafjdljdbaa", sum := "674a72b474854f321a59a1f53d6b566490dd96bfe06de047c29c7e62bbefe3c0", func := "pascaline/pascalinelaw13.FingerSums", spec := "fingerSums", apart := false, narrowed := true }
def FingerSumsUptoSaid : Prop := fingerSumsUptoRow.holds Try.pinned (OpenSpec.upto fingerSumsSpec)

/-- 'pascalinelaw12.CodecPuts', WHERE WHAT IT READS IS OF BULK AT MOST 1048576: true; the input reads as it did. -/
def codecPutsUptoRow : OpenClaim := { program := "ytekbdafjdljdbaa", sum := "674a72b474854f321a59a1f53d6b566490dd96bfe06de047c29c7e62bbefe3c0", func := "pascaline/pascalinelaw12.CodecPuts", spec := "codecPuts", apart := false, narrowed := true }
def CodecPutsUptoSaid : Prop := codecPutsUptoRow.holds Try.pinned (OpenSpec.upto codecPutsSpec)

/-- 'pascalinelaw13.FingerKeys', WHERE WHAT IT READS IS OF BULK AT MOST 1048576: true; the input reads as it did. -/
def fingerKeysUptoRow : OpenClaim := { program := "ytekbdafjdljdbaa", sum := "674a72b474854f321a59a1f53d6b566490dd96bfe06de047c29c7e62bbefe3c0", func := "pascaline/pascalinelaw13.FingerKeys", spec := "fingerKeys", apart := false, narrowed := true }
def FingerKeysUptoSaid : Prop := fingerKeysUptoRow.holds Try.pinned (OpenSpec.upto fingerKeysSpec)

/-- 'pascalinelaw13.FingerSame', WHERE WHAT IT READS IS OF BULK AT MOST 1048576: true; the input reads as it did. -/
def fingerSameUptoRow : OpenClaim := { program := "ytekbdafjdljdbaa", sum := "674a72b474854f321a59a1f53d6b566490dd96bfe06de047c29c7e62bbefe3c0", func := "pascaline/pascalinelaw13.FingerSame", spec := "fingerSame", apart := false, narrowed := true }
def FingerSameUptoSaid : Prop := fingerSameUptoRow.holds Try.pinned (OpenSpec.upto fingerSameSpec)

/-- 'pascalinelaw13.FingerReads', WHERE WHAT IT READS IS OF BULK AT MOST 1048576: true; the input reads as it did. -/
def fingerReadsUptoRow : OpenClaim := { program := "ytekbdafjdljdbaa", sum := "674a72b474854f321a59a1f53d6b566490dd96bfe06de047c29c7e62bbefe3c0", func := "pascaline/pascalinelaw13.FingerReads", spec := "fingerReads", apart := false, narrowed := true }
def FingerReadsUptoSaid : Prop := fingerReadsUptoRow.holds Try.pinned (OpenSpec.upto fingerReadsSpec)

/-- 'pascalinelaw12.CodecOnce', WHERE WHAT IT READS IS OF BULK AT MOST 1048576: true; the input reads as it did. -/
def codecOnceUptoRow : OpenClaim := { program := "ytekbdafjdljdbaa", sum := "674a72b474854f321a59a1f53d6b566490dd96bfe06de047c29c7e62bbefe3c0", func := "pascaline/pascalinelaw12.CodecOnce", spec := "codecOnce", apart := false, narrowed := true }
def CodecOnceUptoSaid : Prop := codecOnceUptoRow.holds Try.pinned (OpenSpec.upto codecOnceSpec)

/-- 'pascalinelaw12.CodecBack', WHERE WHAT IT READS IS OF BULK AT MOST 1048576: true; the input reads as it did. -/
def codecBackUptoRow : OpenClaim := { program := "ytekbdafjdljdbaa", sum := "674a72b474854f321a59a1f53d6b566490dd96bfe06de047c29c7e62bbefe3c0", func := "pascaline/pascalinelaw12.CodecBack", spec := "codecBack", apart := false, narrowed := true }
def CodecBackUptoSaid : Prop := codecBackUptoRow.holds Try.pinned (OpenSpec.upto codecBackSpec)

end Rows
end Go.Proofs.Ytekbdafjdljdbaa
