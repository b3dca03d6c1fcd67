/- CodecOnce: from the argument's reading to the bytes that the walk reads. -/
import Derived.Test.YtehdhmhpmkkneaaOc
import Derived.Test.YtehdhmhpmkkneaaOp2
namespace Go.Proofs.Ytehdhmhpmkkneaa
open Go.RowKit Go.Proofs.YtehdhmhpmkkneaaW.PrintWords Go.Proofs.Ytehdhmhpmkkneaa.PAll

theorem reads_u8 {w : World} {A : Option Addr} {n : Nat} {xs : List Int} (h : Kd.C (Kd.int .u8) w A n xs) : ReadsInt w .u8 A n xs :=
  Kd.reads_of_C (enc := Value.int .u8) (d := (0 : Int)) (h1 := fun _ => rfl) h
theorem allB_of {xs : List Int} (h : ∀ x ∈ xs, (Lit.int .u8 x).wf = true) : AllB xs := fun x hx => bdu8 (h x hx)
end Go.Proofs.Ytehdhmhpmkkneaa
