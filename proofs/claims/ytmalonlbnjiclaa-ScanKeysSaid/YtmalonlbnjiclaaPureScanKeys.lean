/- ScanKeys: a word is a key of the scanner just when it is one of the document's list. No condition. -/
import Derived.Test.YtmalonlbnjiclaaPAllx19
import Derived.Test.YtmalonlbnjiclaaSg
namespace Go.Proofs.Ytmalonlbnjiclaa.Pure
open Go.RowKit Go.Proofs.Ytmalonlbnjiclaa.PAll Go.Proofs.YtmalonlbnjiclaaW.PrintWords Go.Proofs.YtmalonlbnjiclaaW.PrintLast

theorem ScanKeys : pascalinelaw08_ScanKeys.Pure := by
  intro a0 _
  obtain ⟨K1, h1⟩ := awake_ev
  obtain ⟨K2, h2⟩ := key_ev a0
  obtain ⟨K3, h3⟩ := rkey_ev a0
  refine ⟨K1 + K2 + K3, ?_⟩
  have e1 := h1 (K1 + K2 + K3) (by omega)
  have e2 := h2 (K1 + K2 + K3) (by omega)
  have e3 := h3 (K1 + K2 + K3) (by omega)
  dsimp only at e1 e2 e3
  unfold pascalinelaw08_ScanKeys.f
  rw [e1, Option.bind_some, if_pos rfl, e2, Option.bind_some, e3, Option.bind_some]
  simp

end Go.Proofs.Ytmalonlbnjiclaa.Pure
