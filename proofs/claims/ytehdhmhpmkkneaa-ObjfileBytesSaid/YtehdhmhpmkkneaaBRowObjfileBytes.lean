/- RowObjfileBytes. -/
import Derived.Test.YtehdhmhpmkkneaaRows
import Derived.Test.YtehdhmhpmkkneaaBWi
import Derived.WalkKit
import Derived.ProofKit
import Derived.OpenShut
import Derived.ShutString
import Derived.ChangeOld
import Derived.Below
import Derived.SizedLaws
/- ObjfileBytes: for every input the call returns true and leaves its arguments as they read. No condition. -/
namespace Go.Proofs.Ytehdhmhpmkkneaa.objfileBytes
open Go.ChangeShapes Go.WideShapes Go.ChangeAt Go.RowKit
open Go.ChangeMaps (open_string shut_string)
open Go.Proofs.YtehdhmhpmkkneaaW.PrintWords Go.Proofs.Ytehdhmhpmkkneaa.PAll
set_option linter.unusedVariables false
theorem own : ownKnob Try.prog.godebug = none := by kernel_rfl
theorem laidOut : laidOutB Try.prog = true := by kernel_rfl
set_option maxRecDepth 100000 in
theorem lifted (os : Os) (started : os.Started) (H : Type) (enc : TypeId × Value → H) :
    ReturnsInHanded {} Try.checked os 13 .any (Rows.objfileBytesSpec.pre6 enc Try.prog Try.f13 Rows.objfileBytesRow.domain false) (Rows.objfileBytesSpec.post enc Try.prog Try.f13 false true false false) := by
  refine returnsInHanded_of_change_sized (C := Try.checked) own started (by kernel_rfl) Try.func13
    (ChangeSpec.witness6 (enc := enc) (C := Try.checked) false ⟨#[], #[.agg #[.string ByteArray.empty, .int .u32 0, .slice none 0 0, .slice none 0 0, .slice none 0 0, .slice none 0 0, .int .i64 0, .int .i64 0, .int .i64 0]], []⟩ 8 (by kernel_rfl) (by kernel_rfl) (by kernel_rfl) (by kernel_rfl)) ?_
  intro W base args ds gs before hval0 hW hcnd hsz0 _
  have hval : ∀ (j : Nat) t v, Try.f13.params[j]? = some t → args[j]? = some v → Value.okWide Try.prog W .any base t v := hval0
  have hW' := hW
  obtain ⟨p, q, hA0, hV, rfl, hfz, hnd⟩ := hW
  have hA : DataW.TrodAll enc Try.prog W 0 (fun _ => true) true Try.f13.params.toList args.toList ds p := hA0
  rw [Try.params13] at hA hval
  obtain ⟨v0, vs0, d0, ds0, p0, q0, hargs, rfl, rfl, h0, r0⟩ := trodAll_cons hA
  obtain ⟨rfl, rfl, rfl⟩ := trodAll_nil r0
  obtain rfl : args = #[v0] := by cases args; simp_all
  obtain ⟨rfl, rfl⟩ := trodVars_none hV
  obtain ⟨cs0, rfl, _⟩ := okWide_struct Try.underlying60 (hval 0 60 v0 rfl rfl)
  have k0 := h0
  have lt0 : ∀ x ∈ p0, x.block < W.heap.size := by obtain ⟨m, hm⟩ := k0; exact DataW.trod_lt m _ _ _ hm
  obtain ⟨b, z, d, e, y, A2, A3, A4, A5, c2, c3, c4, c5, l2, l3, l4, l5, hv, at0, ok0⟩ := opens60 rfl h0
  obtain rfl := Value.agg.inj hv
  clear hA0 hval0 hsz0
  refine (objfileBytes_any b z d e y A2 A3 A4 A5 c2 c3 c4 c5 l2 l3 l4 l5 W at0 (by have := ok0.b; unfold maxLen at this; omega) (fun x hx => by have := (ok0.l2.2 x hx).1; unfold maxLen at this; omega) (by have := ok0.l2.1; unfold maxLen at this; omega) ok0.l2.2 (fun x hx => bdu32 (ok0.l3.2 x hx)) (bdu32 ok0.z)).mono fun e W' ⟨he, bel⟩ => ?_
  subst he
  exact ⟨_, rfl, _, _, _, [], _, [], hW', trodAll_mk1 (shut_bool Try.underlying4 _), (trodAll_cons_mk (Below.trod laidOut (by kernel_rfl) (of_decide_eq_true (by kernel_rfl)) k0 bel lt0) trodAll_mk0), rfl, bel.frame _, fun h => by cases h⟩
theorem over : Rows.objfileBytesRow.holds Try.pinned (OpenSpec.ofChange Rows.objfileBytesSpec) :=
  OpenClaim.holds_of_wide 13 Try.f13 rfl rfl rfl rfl rfl rfl rfl ⟨rfl, rfl, rfl, rfl, rfl⟩ rfl rfl rfl rfl rfl (by kernel_rfl) Try.func13 (by kernel_rfl)
    (of_decide_eq_true (by kernel_rfl)) (by unfold Func.isWrapper; first | (rw [if_pos (by decide +kernel)]; kernel_rfl) | (rw [if_neg (by decide +kernel)]; exact ⟨rfl, rfl⟩))
    (fun os started H enc _ => lifted os started H enc)
theorem proved : Rows.ObjfileBytesSaid := over
#print axioms proved
end Go.Proofs.Ytehdhmhpmkkneaa.objfileBytes
namespace Go.Proofs.Ytehdhmhpmkkneaa
theorem objfileBytes_holds : Rows.ObjfileBytesSaid := objfileBytes.proved
end Go.Proofs.Ytehdhmhpmkkneaa
