/- Wh. -/
import Derived.Test.YtehdhmhpmkkneaaBPAlly41
import Derived.Test.YtehdhmhpmkkneaaBWb
/- Is: of an object and itself. -/
namespace Go.Proofs.Ytehdhmhpmkkneaa
open Go.RowKit Go.Proofs.YtehdhmhpmkkneaaW.PrintWords Go.Proofs.YtehdhmhpmkkneaaW.PrintMore Go.Proofs.YtehdhmhpmkkneaaW.PrintLast Go.Proofs.Ytehdhmhpmkkneaa.PAll
theorem is_words (l : List Int) (h : l.length ≤ 9223372036854775806) : ∀ m i k, i + m = l.length → m < k → pascalineref01_Words.l0 k l l (i : Int) = some true
  | 0, i, 0, _, hk => by omega
  | 0, i, k + 1, hi, _ => by
    unfold pascalineref01_Words.l0
    rw [if_neg (by omega)]
  | m + 1, i, 0, _, hk => by omega
  | m + 1, i, k + 1, hi, hk => by
    unfold pascalineref01_Words.l0
    rw [if_pos (by omega), if_pos (by omega), if_pos (by omega), if_pos rfl, show wrap64 ((i : Int) + 1) = ((i + 1 : Nat) : Int) by unfold wrap64; omega]
    exact is_words l h m (i + 1) k (by omega) (by omega)
theorem is_uses (l : List S93) (h : l.length ≤ 9223372036854775806) : ∀ m i k, i + m = l.length → m < k → pascalineref14_Uses.l0 k l l (i : Int) = some true
  | 0, i, 0, _, hk => by omega
  | 0, i, k + 1, hi, _ => by
    unfold pascalineref14_Uses.l0
    rw [if_neg (by omega)]
  | m + 1, i, 0, _, hk => by omega
  | m + 1, i, k + 1, hi, hk => by
    unfold pascalineref14_Uses.l0
    rw [if_pos (by omega), if_pos (by omega), if_pos (by omega), if_neg (by simp only [beq_self_eq_true, Bool.not_true, Bool.or_self]; decide), show wrap64 ((i : Int) + 1) = ((i + 1 : Nat) : Int) by unfold wrap64; omega]
    exact is_uses l h m (i + 1) k (by omega) (by omega)
section
variable (b : ByteArray) (z : Int) (l2 : List S93) (l3 : List Int) (l4 : List S134) (l5 : List S131) (d e y : Int)
theorem is_l1 (h : l5.length ≤ 9223372036854775806) : ∀ m i k, i + m = l5.length → m < k → pascalinelaw15_Is.l1 k (i : Int) b z l2 l3 l4 l5 d e y b z l2 l3 l4 l5 d e y = some true
  | 0, i, 0, _, hk => by omega
  | 0, i, k + 1, hi, _ => by
    unfold pascalinelaw15_Is.l1
    rw [if_neg (by omega)]
  | m + 1, i, 0, _, hk => by omega
  | m + 1, i, k + 1, hi, hk => by
    unfold pascalinelaw15_Is.l1
    rw [if_pos (by omega), if_pos (by omega), if_pos (by omega), if_neg (by simp only [beq_self_eq_true, Bool.not_true, Bool.or_self]; decide), show wrap64 ((i : Int) + 1) = ((i + 1 : Nat) : Int) by unfold wrap64; omega]
    exact is_l1 h m (i + 1) k (by omega) (by omega)
theorem is_l0 (h : l5.length ≤ 9223372036854775806) (h4 : l4.length ≤ 9223372036854775806) : ∀ m i k, i + m = l4.length → m + l5.length + 2 < k → pascalinelaw15_Is.l0 k (i : Int) b z l2 l3 l4 l5 d e y b z l2 l3 l4 l5 d e y = some true
  | 0, i, 0, _, hk => by omega
  | 0, i, k + 1, hi, hk => by
    unfold pascalinelaw15_Is.l0
    rw [if_neg (by omega)]
    exact is_l1 b z l2 l3 l4 l5 d e y h l5.length 0 k (by omega) (by omega)
  | m + 1, i, 0, _, hk => by omega
  | m + 1, i, k + 1, hi, hk => by
    unfold pascalinelaw15_Is.l0
    rw [if_pos (by omega), if_pos (by omega), if_pos (by omega), if_neg (by simp only [beq_self_eq_true, Bool.not_true, Bool.or_self]; decide), show wrap64 ((i : Int) + 1) = ((i + 1 : Nat) : Int) by unfold wrap64; omega]
    exact is_l0 h h4 m (i + 1) k (by omega) (by omega)
theorem is_f (h2 : l2.length ≤ 64) (h3 : l3.length ≤ 16384) (h4 : l4.length ≤ 16384) (h5 : l5.length ≤ 16384) : pascalinelaw15_Is.f (50000 + 1) b z l2 l3 l4 l5 d e y b z l2 l3 l4 l5 d e y = some true := by
  have hw : pascalineref01_Words.f (50000 + 1) l3 l3 = some true := by
    unfold pascalineref01_Words.f
    rw [if_pos rfl]
    exact is_words l3 (by omega) l3.length 0 (50000 + 1) (by omega) (by omega)
  have hu : pascalineref14_Uses.f (50000 + 1) l2 l2 = some true := by
    unfold pascalineref14_Uses.f
    rw [if_pos rfl]
    exact is_uses l2 (by omega) l2.length 0 (50000 + 1) (by omega) (by omega)
  have hj : pascalinelaw15_Is.j0 (50000 + 1) ((l5.length : Int) != (l5.length : Int)) b z l2 l3 l4 l5 d e y b z l2 l3 l4 l5 d e y = some true := by
    rw [show ((l5.length : Int) != (l5.length : Int)) = false from bne_self_eq_false _]
    have hj0 : ∀ k, pascalinelaw15_Is.j0 (k + 1) false b z l2 l3 l4 l5 d e y b z l2 l3 l4 l5 d e y = pascalinelaw15_Is.l0 k 0 b z l2 l3 l4 l5 d e y b z l2 l3 l4 l5 d e y := by
      intro k
      simp only [pascalinelaw15_Is.j0, Bool.false_eq_true, if_false]
    rw [hj0]
    exact is_l0 b z l2 l3 l4 l5 d e y (by omega) (by omega) l4.length 0 50000 (by omega) (by omega)
  unfold pascalinelaw15_Is.f
  rw [if_pos rfl, if_pos rfl, hu, Option.bind_some, if_pos rfl, hw, Option.bind_some, if_pos rfl, if_pos rfl, if_pos rfl, if_pos rfl, if_pos rfl]
  exact hj
theorem obj_is {A2 A3 A4 A5 B2 B3 B4 B5 : Option Addr} {c2 c3 c4 c5 d2 d3 d4 d5 : Nat} (w : World) (h : ObjAt A2 A3 A4 A5 c2 c3 c4 c5 l2 l3 l4 l5 w) (g : ObjAt B2 B3 B4 B5 d2 d3 d4 d5 l2 l3 l4 l5 w) (h2 : l2.length ≤ 64) (h3 : l3.length ≤ 16384) (h4 : l4.length ≤ 16384) (h5 : l5.length ≤ 16384) :
    Calls Try.prog 70 #[objV b z d e y B2 B3 B4 B5 d2 d3 d4 d5 l2 l3 l4 l5, objV b z d e y A2 A3 A4 A5 c2 c3 c4 c5 l2 l3 l4 l5] w fun en w' => en = .returned (.bool true) ∧ Below w.heap.size w w' :=
  pascalinelaw15_Is.calls _ b z B2 d2 l2 B3 d3 l3 B4 d4 l4 B5 d5 l5 d e y b z A2 c2 l2 A3 c3 l3 A4 c4 l4 A5 c5 l5 d e y true w g.r2 g.h2 g.r3 g.h3 g.r4 g.h4 g.r5 g.h5 h.r2 h.h2 h.r3 h.h3 h.r4 h.h4 h.r5 h.h5 (is_f b z l2 l3 l4 l5 d e y h2 h3 h4 h5)
end
end Go.Proofs.Ytehdhmhpmkkneaa
