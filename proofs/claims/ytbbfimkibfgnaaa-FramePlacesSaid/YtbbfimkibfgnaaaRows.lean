/-
  No cell of these rows narrows 'for every input' (looked for: loops, veiled, ifaces, maps, wideKeys, modest, calm, conditions, laid).
  DERIVED. THE GIVEN ROWS OF THIS SEAT. 3 by the template 'for every input the law returns true; each argument reads behind the call as it read before'; 0 by the template 'total and deterministic' (their statements: YtbbfimkibfgnaaaTotals.lean).
  GIVEN WITH THE SEED: the statements are not yours to turn. If you find one false, say at which input.
  Laid BY PROGRAM, IN A SANDBOX (cutbox-rows.mjs): the forced cells as the released guide's own fill.sh prints them over the translation 6a5dabfff14eaf08… (all of the seat's roots in one cut). By AI agents, Wed Nov 11 2026. No macro, syntax, notation, axiom, sorry.
-/
import Derived.Test.YtbbfimkibfgnaaaChecked
import GoSem.Claim
import GoSem.ClaimJoined
import GoSem.ClaimMapViews
import Derived.JoinedTies
import Derived.KernelRfl
namespace Go.Proofs.Ytbbfimkibfgnaaa
/- THE CELL 'sum', in the pinned program and in every row, IS THE sha256 OF THE DUMP (.gsa) THAT YtbbfimkibfgnaaaProg.lean LOADS. Nothing in Lean hashes anything: it is a label: what it is worth is what the hold of that sum in a sandbox is worth. -/
noncomputable def Try.pinned : Pinned := { name := "ytbbfimkibfgnaaa", sum := "6a5dabfff14eaf083f8002324640b57bfe60c19b7ce6da50a26c83514526eaa7", checked := Try.checked }
namespace Rows
def none {H : Type} : Left H := { results := [], args := [] }

/-- 'pascalinelaw18.FrameApart': WHATEVER THE INPUT: true; the input reads as it did. -/
def frameApartSpec : ChangeSpec := { name := "frameApart", fn := fun _ => fun
  | [d1, d2] => { results := [.lit (.bool true)], args := [d1, d2] }
  | _ => none }
def frameApartRow : OpenClaim := { program := "ytbbfimkibfgnaaa", sum := "6a5dabfff14eaf083f8002324640b57bfe60c19b7ce6da50a26c83514526eaa7", func := "pascaline/pascalinelaw18.FrameApart", spec := "frameApart", apart := false }
def FrameApartSaid : Prop := frameApartRow.holds Try.pinned (OpenSpec.ofChange frameApartSpec)

/-- ITS FALSE NEIGHBOUR: 'it returns false'. Refute it at one input. -/
def frameApartWrong : ChangeSpec := { name := "frameApart", fn := fun _ => fun
  | [d1, d2] => { results := [.lit (.bool false)], args := [d1, d2] }
  | _ => none }
def FrameApartWrongFalsely : Prop := frameApartRow.holds Try.pinned (OpenSpec.ofChange frameApartWrong)

/-- 'pascalinelaw18.FrameParams': WHATEVER THE INPUT: true; the input reads as it did. -/
def frameParamsSpec : ChangeSpec := { name := "frameParams", fn := fun _ => fun
  | [d1, d2, d3] => { results := [.lit (.bool true)], args := [d1, d2, d3] }
  | _ => none }
def frameParamsRow : OpenClaim := { program := "ytbbfimkibfgnaaa", sum := "6a5dabfff14eaf083f8002324640b57bfe60c19b7ce6da50a26c83514526eaa7", func := "pascaline/pascalinelaw18.FrameParams", spec := "frameParams", apart := false }
def FrameParamsSaid : Prop := frameParamsRow.holds Try.pinned (OpenSpec.ofChange frameParamsSpec)

/-- ITS FALSE NEIGHBOUR: 'it returns false'. Refute it at one input. -/
def frameParamsWrong : ChangeSpec := { name := "frameParams", fn := fun _ => fun
  | [d1, d2, d3] => { results := [.lit (.bool false)], args := [d1, d2, d3] }
  | _ => none }
def FrameParamsWrongFalsely : Prop := frameParamsRow.holds Try.pinned (OpenSpec.ofChange frameParamsWrong)

/-- 'pascalinelaw18.FramePlaces': WHATEVER THE INPUT: true; the input reads as it did. -/
def framePlacesSpec : ChangeSpec := { name := "framePlaces", fn := fun _ => fun
  | [d] => { results := [.lit (.bool true)], args := [d] }
  | _ => none }
def framePlacesRow : OpenClaim := { program := "ytbbfimkibfgnaaa", sum := "6a5dabfff14eaf083f8002324640b57bfe60c19b7ce6da50a26c83514526eaa7", func := "pascaline/pascalinelaw18.FramePlaces", spec := "framePlaces", apart := false }
def FramePlacesSaid : Prop := framePlacesRow.holds Try.pinned (OpenSpec.ofChange framePlacesSpec)

/-- ITS FALSE NEIGHBOUR: 'it returns false'. Refute it at one input. -/
def framePlacesWrong : ChangeSpec := { name := "framePlaces", fn := fun _ => fun
  | [d] => { results := [.lit (.bool false)], args := [d] }
  | _ => none }
def FramePlacesWrongFalsely : Prop := framePlacesRow.holds Try.pinned (OpenSpec.ofChange framePlacesWrong)

/- THE SECOND FORM. 'bulk': how many values and letters a reading holds, each counted each time it is reached (what is shared counts as often as it is met; a slice's spare places count too). A statement '..UptoSaid' is the law's where the arguments, and the package variables that the reading takes, are together of bulk at most 1048576: NARROWER than '..Said'. Prove '..Said' where nothing that the law and all that it calls make is longer than what came in: it says more and counts as full. Else prove '..UptoSaid'. A law counts once. -/
mutual
def uptoBulk {H : Type} : DataW H → Nat
  | .lit (.string bytes) => bytes.length + 1
  | .lit _ => 1
  | .nil => 1
  | .ptr d => uptoBulk d + 1
  | .slice elems spare => uptoBulkAll elems + uptoBulkAll spare + 1
  | .agg parts => uptoBulkAll parts + 1
  | .iface _ d => uptoBulk d + 1
  | .map entries => uptoBulkEntries entries + 1
  | .held _ => 1
def uptoBulkAll {H : Type} : List (DataW H) → Nat
  | [] => 0
  | d :: r => uptoBulk d + uptoBulkAll r
def uptoBulkEntries {H : Type} : List (Lit × DataW H) → Nat
  | [] => 0
  | x :: r => uptoBulkEntry x + uptoBulkEntries r
def uptoBulkEntry {H : Type} : Lit × DataW H → Nat
  | (.string bytes, d) => bytes.length + uptoBulk d + 1
  | (_, d) => uptoBulk d + 1
 end
def uptoSmall : (H : Type) → List (DataW H) → Bool := fun _ ds => decide (uptoBulkAll ds ≤ 1048576)
def OpenSpec.upto (s : _root_.Go.ChangeSpec) : _root_.Go.OpenSpec := { _root_.Go.OpenSpec.ofChange s with cond := some uptoSmall }

/-- 'pascalinelaw18.FrameApart', WHERE WHAT IT READS IS OF BULK AT MOST 1048576: true; the input reads as it did. -/
def frameApartUptoRow : OpenClaim := { program := "ytbbfimkibfgnaaa", sum := "6a5dabfff14eaf083f8002324640b57bfe60c19b7ce6da50a26c83514526eaa7", func := "pascaline/pascalinelaw18.FrameApart", spec := "frameApart", apart := false, narrowed := true }
def FrameApartUptoSaid : Prop := frameApartUptoRow.holds Try.pinned (OpenSpec.upto frameApartSpec)

/-- 'pascalinelaw18.FrameParams', WHERE WHAT IT READS IS OF BULK AT MOST 1048576: true; the input reads as it did. -/
def frameParamsUptoRow : OpenClaim := { program := "ytbbfimkibfgnaaa", sum := "6a5dabfff14eaf083f8002324640b57bfe60c19b7ce6da50a26c83514526eaa7", func := "pascaline/pascalinelaw18.FrameParams", spec := "frameParams", apart := false, narrowed := true }
def FrameParamsUptoSaid : Prop := frameParamsUptoRow.holds Try.pinned (OpenSpec.upto frameParamsSpec)

/-- 'pascalinelaw18.FramePlaces', WHERE WHAT IT READS IS OF BULK AT MOST 1048576: true; the input reads as it did. -/
def framePlacesUptoRow : OpenClaim := { program := "ytbbfimkibfgnaaa", sum := "6a5dabfff14eaf083f8002324640b57bfe60c19b7ce6da50a26c83514526eaa7", func := "pascaline/pascalinelaw18.FramePlaces", spec := "framePlaces", apart := false, narrowed := true }
def FramePlacesUptoSaid : Prop := framePlacesUptoRow.holds Try.pinned (OpenSpec.upto framePlacesSpec)

end Rows
end Go.Proofs.Ytbbfimkibfgnaaa
