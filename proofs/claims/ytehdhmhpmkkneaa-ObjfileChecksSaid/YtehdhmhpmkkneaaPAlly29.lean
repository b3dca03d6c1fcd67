-- PRINTED by print.py (a twelfth state) out of the translation. Not trusted: Lean checks it.
import Derived.Test.YtehdhmhpmkkneaaPAllx0
import Derived.Test.YtehdhmhpmkkneaaMi
import Derived.Test.YtehdhmhpmkkneaaPAlly25
import Derived.Test.YtehdhmhpmkkneaaPAlly26
import Derived.Test.YtehdhmhpmkkneaaPAlly27
import Derived.Test.YtehdhmhpmkkneaaPAlly28
namespace Go.Proofs.Ytehdhmhpmkkneaa.PAll
open Go.RowKit Go.Proofs.YtehdhmhpmkkneaaW.PrintWords Go.Proofs.YtehdhmhpmkkneaaW.PrintLast Go.Proofs.YtehdhmhpmkkneaaW.PrintMore
attribute [local go_sem] max2_int min2_int max_two min_two max_three min_three max_four min_four   -- for this text's walks alone
set_option linter.unusedVariables false
set_option linter.unusedSimpArgs false

/-! ### pascalineref15_Check: function 37 -/
mutual
def pascalineref15_Check.j0 : Nat → Int → Bool → ByteArray → Int → List (S93) → List Int → List (S134) → List (S131) → Int → Int → Int → Option (Int)
  | 0, _, _, _, _, _, _, _, _, _, _, _ => none
  | k + 1, x4, x38, x311000, x311001, x311002, x311003, x311004, x311005, x311006, x311007, x311008 => if x38 = true then (some 242) else (if x311006 < 0 then (pascalineref15_Check.j1 k x4 true x311000 x311001 x311002 x311003 x311004 x311005 x311006 x311007 x311008) else (if x311006 > 16384 then (pascalineref15_Check.j1 k x4 true x311000 x311001 x311002 x311003 x311004 x311005 x311006 x311007 x311008) else (if x311007 < 0 then (pascalineref15_Check.j1 k x4 true x311000 x311001 x311002 x311003 x311004 x311005 x311006 x311007 x311008) else (pascalineref15_Check.j1 k x4 (decide (x311007 > 4096)) x311000 x311001 x311002 x311003 x311004 x311005 x311006 x311007 x311008))))
def pascalineref15_Check.j1 : Nat → Int → Bool → ByteArray → Int → List (S93) → List Int → List (S134) → List (S131) → Int → Int → Int → Option (Int)
  | 0, _, _, _, _, _, _, _, _, _, _, _ => none
  | k + 1, x4, x56, x311000, x311001, x311002, x311003, x311004, x311005, x311006, x311007, x311008 => if x56 = true then (some 244) else (if x311008 < 0 then (pascalineref15_Check.j2 k x4 true x311000 x311001 x311002 x311003 x311004 x311005 x311006 x311007 x311008) else (if x311008 ≥ x4 then (pascalineref15_Check.j2 k x4 true x311000 x311001 x311002 x311003 x311004 x311005 x311006 x311007 x311008) else (if (x311005.length : Int) = 0 then (pascalineref15_Check.j2 k x4 true x311000 x311001 x311002 x311003 x311004 x311005 x311006 x311007 x311008) else (if 0 < (x311005.length : Int) then (pascalineref15_Check.j2 k x4 (((rd_T131 x311005 0).f0) != 0) x311000 x311001 x311002 x311003 x311004 x311005 x311006 x311007 x311008) else (none)))))
def pascalineref15_Check.j2 : Nat → Int → Bool → ByteArray → Int → List (S93) → List Int → List (S134) → List (S131) → Int → Int → Int → Option (Int)
  | 0, _, _, _, _, _, _, _, _, _, _, _ => none
  | k + 1, x4, x79, x311000, x311001, x311002, x311003, x311004, x311005, x311006, x311007, x311008 => if x79 = true then (some 121) else (pascalineref15_Check.l0 k x4 0 x311000 x311001 x311002 x311003 x311004 x311005 x311006 x311007 x311008)
def pascalineref15_Check.l0 : Nat → Int → Int → ByteArray → Int → List (S93) → List Int → List (S134) → List (S131) → Int → Int → Int → Option (Int)
  | 0, _, _, _, _, _, _, _, _, _, _, _ => none
  | k + 1, x4, x5, x311000, x311001, x311002, x311003, x311004, x311005, x311006, x311007, x311008 => if x5 < (x311005.length : Int) then (if 0 ≤ x5 then (if ((rd_T131 x311005 x5).f0) ≥ x4 then (some 121) else (if ((rd_T131 x311005 x5).f1) < (-1) then (some 121) else (if ((rd_T131 x311005 x5).f1) ≥ x4 then (some 121) else (if x5 > 0 then (if 0 ≤ (wrap64 (x5 - 1)) then (if (wrap64 (x5 - 1)) < (x311005.length : Int) then (if ((rd_T131 x311005 x5).f0) ≤ ((rd_T131 x311005 (wrap64 (x5 - 1))).f0) then (some 121) else (pascalineref15_Check.l0 k x4 (wrap64 (x5 + 1)) x311000 x311001 x311002 x311003 x311004 x311005 x311006 x311007 x311008)) else (none)) else (none)) else (pascalineref15_Check.l0 k x4 (wrap64 (x5 + 1)) x311000 x311001 x311002 x311003 x311004 x311005 x311006 x311007 x311008))))) else (none)) else (pascalineref15_Check.l1 k 0 0 x311000 x311001 x311002 x311003 x311004 x311005 x311006 x311007 x311008)
def pascalineref15_Check.l1 : Nat → Int → Int → ByteArray → Int → List (S93) → List Int → List (S134) → List (S131) → Int → Int → Int → Option (Int)
  | 0, _, _, _, _, _, _, _, _, _, _, _ => none
  | k + 1, x7, x8, x311000, x311001, x311002, x311003, x311004, x311005, x311006, x311007, x311008 => if x8 < (x311004.length : Int) then (if 0 ≤ x8 then ((pascalineref15_Fits.f k x311000 x311001 x311002 x311003 x311004 x311005 x311006 x311007 x311008 ((rd_T134 x311004 x8).f0) ((rd_T134 x311004 x8).f1) ((rd_T134 x311004 x8).f2) ((rd_T134 x311004 x8).f3)).bind fun t319 => (if t319 = true then (if ((rd_T134 x311004 x8).f0) < x7 then (some 121) else ((pascalineref15_Words.f ((rd_T134 x311004 x8).f1)).bind fun t320 => (pascalineref15_Check.l1 k (wrap64 (((rd_T134 x311004 x8).f0) + t320)) (wrap64 (x8 + 1)) x311000 x311001 x311002 x311003 x311004 x311005 x311006 x311007 x311008))) else (some 121))) else (none)) else (some 0)
end
def pascalineref15_Check.f (k : Nat) (a0_0 : ByteArray) (a0_1 : Int) (l0_2 : List (S93)) (l0_3 : List Int) (l0_4 : List (S134)) (l0_5 : List (S131)) (a0_6 : Int) (a0_7 : Int) (a0_8 : Int) : Option (Int) := (pascalineref14_Name.f k a0_0).bind fun t311 => (if t311 = true then ((pascalineref14_Imports.f k a0_0 l0_2).bind fun t312 => (if t312 = 0 then (if (l0_3.length : Int) > 16384 then (pascalineref15_Check.j0 k (l0_3.length : Int) true a0_0 a0_1 l0_2 l0_3 l0_4 l0_5 a0_6 a0_7 a0_8) else (if (l0_4.length : Int) > 16384 then (pascalineref15_Check.j0 k (l0_3.length : Int) true a0_0 a0_1 l0_2 l0_3 l0_4 l0_5 a0_6 a0_7 a0_8) else (pascalineref15_Check.j0 k (l0_3.length : Int) (decide ((l0_5.length : Int) > 16384)) a0_0 a0_1 l0_2 l0_3 l0_4 l0_5 a0_6 a0_7 a0_8))) else (some t312))) else (some 140))
theorem pascalineref15_Check.mono_l : ∀ k, (∀ y0 y1 y2 y3 y4 y5 y6 y7 y8 y9 y10, LeO (pascalineref15_Check.j0 k y0 y1 y2 y3 y4 y5 y6 y7 y8 y9 y10) (pascalineref15_Check.j0 (k + 1) y0 y1 y2 y3 y4 y5 y6 y7 y8 y9 y10)) ∧ (∀ y0 y1 y2 y3 y4 y5 y6 y7 y8 y9 y10, LeO (pascalineref15_Check.j1 k y0 y1 y2 y3 y4 y5 y6 y7 y8 y9 y10) (pascalineref15_Check.j1 (k + 1) y0 y1 y2 y3 y4 y5 y6 y7 y8 y9 y10)) ∧ (∀ y0 y1 y2 y3 y4 y5 y6 y7 y8 y9 y10, LeO (pascalineref15_Check.j2 k y0 y1 y2 y3 y4 y5 y6 y7 y8 y9 y10) (pascalineref15_Check.j2 (k + 1) y0 y1 y2 y3 y4 y5 y6 y7 y8 y9 y10)) ∧ (∀ y0 y1 y2 y3 y4 y5 y6 y7 y8 y9 y10, LeO (pascalineref15_Check.l0 k y0 y1 y2 y3 y4 y5 y6 y7 y8 y9 y10) (pascalineref15_Check.l0 (k + 1) y0 y1 y2 y3 y4 y5 y6 y7 y8 y9 y10)) ∧ (∀ y0 y1 y2 y3 y4 y5 y6 y7 y8 y9 y10, LeO (pascalineref15_Check.l1 k y0 y1 y2 y3 y4 y5 y6 y7 y8 y9 y10) (pascalineref15_Check.l1 (k + 1) y0 y1 y2 y3 y4 y5 y6 y7 y8 y9 y10))
  | 0 => ⟨fun _ _ _ _ _ _ _ _ _ _ _ r h => by simp [pascalineref15_Check.j0] at h, fun _ _ _ _ _ _ _ _ _ _ _ r h => by simp [pascalineref15_Check.j1] at h, fun _ _ _ _ _ _ _ _ _ _ _ r h => by simp [pascalineref15_Check.j2] at h, fun _ _ _ _ _ _ _ _ _ _ _ r h => by simp [pascalineref15_Check.l0] at h, fun _ _ _ _ _ _ _ _ _ _ _ r h => by simp [pascalineref15_Check.l1] at h⟩
  | k + 1 => by
    obtain ⟨ih0, ih1, ih2, ih3, ih4⟩ := pascalineref15_Check.mono_l k
    refine ⟨?_, ?_, ?_, ?_, ?_⟩
    · intro y0 y1 y2 y3 y4 y5 y6 y7 y8 y9 y10
      unfold pascalineref15_Check.j0
      repeat' first
      | (with_reducible exact ih0 _ _ _ _ _ _ _ _ _ _ _)
      | (with_reducible exact ih1 _ _ _ _ _ _ _ _ _ _ _)
      | (with_reducible exact ih2 _ _ _ _ _ _ _ _ _ _ _)
      | (with_reducible exact ih3 _ _ _ _ _ _ _ _ _ _ _)
      | (with_reducible exact ih4 _ _ _ _ _ _ _ _ _ _ _)
      | (with_reducible exact pascalineref14_Imports.mono _ _ _)
      | (with_reducible exact pascalineref14_Name.mono _ _)
      | (with_reducible exact pascalineref15_Fits.mono _ _ _ _ _ _ _ _ _ _ _ _ _ _)
      | (with_reducible exact LeO.refl _)
      | (with_reducible exact LeO.none _)
      | (with_reducible refine LeO.ite ?_ ?_)
      | (with_reducible refine LeO.bind ?_ (fun _ => ?_))
      | exact ih0 _ _ _ _ _ _ _ _ _ _ _
      | exact ih1 _ _ _ _ _ _ _ _ _ _ _
      | exact ih2 _ _ _ _ _ _ _ _ _ _ _
      | exact ih3 _ _ _ _ _ _ _ _ _ _ _
      | exact ih4 _ _ _ _ _ _ _ _ _ _ _
      | exact pascalineref14_Imports.mono _ _ _
      | exact pascalineref14_Name.mono _ _
      | exact pascalineref15_Fits.mono _ _ _ _ _ _ _ _ _ _ _ _ _ _
      | exact LeO.none _
      | refine LeO.ite ?_ ?_
      | refine LeO.bind ?_ (fun _ => ?_)
    · intro y0 y1 y2 y3 y4 y5 y6 y7 y8 y9 y10
      unfold pascalineref15_Check.j1
      repeat' first
      | (with_reducible exact ih0 _ _ _ _ _ _ _ _ _ _ _)
      | (with_reducible exact ih1 _ _ _ _ _ _ _ _ _ _ _)
      | (with_reducible exact ih2 _ _ _ _ _ _ _ _ _ _ _)
      | (with_reducible exact ih3 _ _ _ _ _ _ _ _ _ _ _)
      | (with_reducible exact ih4 _ _ _ _ _ _ _ _ _ _ _)
      | (with_reducible exact pascalineref14_Imports.mono _ _ _)
      | (with_reducible exact pascalineref14_Name.mono _ _)
      | (with_reducible exact pascalineref15_Fits.mono _ _ _ _ _ _ _ _ _ _ _ _ _ _)
      | (with_reducible exact LeO.refl _)
      | (with_reducible exact LeO.none _)
      | (with_reducible refine LeO.ite ?_ ?_)
      | (with_reducible refine LeO.bind ?_ (fun _ => ?_))
      | exact ih0 _ _ _ _ _ _ _ _ _ _ _
      | exact ih1 _ _ _ _ _ _ _ _ _ _ _
      | exact ih2 _ _ _ _ _ _ _ _ _ _ _
      | exact ih3 _ _ _ _ _ _ _ _ _ _ _
      | exact ih4 _ _ _ _ _ _ _ _ _ _ _
      | exact pascalineref14_Imports.mono _ _ _
      | exact pascalineref14_Name.mono _ _
      | exact pascalineref15_Fits.mono _ _ _ _ _ _ _ _ _ _ _ _ _ _
      | exact LeO.none _
      | refine LeO.ite ?_ ?_
      | refine LeO.bind ?_ (fun _ => ?_)
    · intro y0 y1 y2 y3 y4 y5 y6 y7 y8 y9 y10
      unfold pascalineref15_Check.j2
      repeat' first
      | (with_reducible exact ih0 _ _ _ _ _ _ _ _ _ _ _)
      | (with_reducible exact ih1 _ _ _ _ _ _ _ _ _ _ _)
      | (with_reducible exact ih2 _ _ _ _ _ _ _ _ _ _ _)
      | (with_reducible exact ih3 _ _ _ _ _ _ _ _ _ _ _)
      | (with_reducible exact ih4 _ _ _ _ _ _ _ _ _ _ _)
      | (with_reducible exact pascalineref14_Imports.mono _ _ _)
      | (with_reducible exact pascalineref14_Name.mono _ _)
      | (with_reducible exact pascalineref15_Fits.mono _ _ _ _ _ _ _ _ _ _ _ _ _ _)
      | (with_reducible exact LeO.refl _)
      | (with_reducible exact LeO.none _)
      | (with_reducible refine LeO.ite ?_ ?_)
      | (with_reducible refine LeO.bind ?_ (fun _ => ?_))
      | exact ih0 _ _ _ _ _ _ _ _ _ _ _
      | exact ih1 _ _ _ _ _ _ _ _ _ _ _
      | exact ih2 _ _ _ _ _ _ _ _ _ _ _
      | exact ih3 _ _ _ _ _ _ _ _ _ _ _
      | exact ih4 _ _ _ _ _ _ _ _ _ _ _
      | exact pascalineref14_Imports.mono _ _ _
      | exact pascalineref14_Name.mono _ _
      | exact pascalineref15_Fits.mono _ _ _ _ _ _ _ _ _ _ _ _ _ _
      | exact LeO.none _
      | refine LeO.ite ?_ ?_
      | refine LeO.bind ?_ (fun _ => ?_)
    · intro y0 y1 y2 y3 y4 y5 y6 y7 y8 y9 y10
      unfold pascalineref15_Check.l0
      repeat' first
      | (with_reducible exact ih0 _ _ _ _ _ _ _ _ _ _ _)
      | (with_reducible exact ih1 _ _ _ _ _ _ _ _ _ _ _)
      | (with_reducible exact ih2 _ _ _ _ _ _ _ _ _ _ _)
      | (with_reducible exact ih3 _ _ _ _ _ _ _ _ _ _ _)
      | (with_reducible exact ih4 _ _ _ _ _ _ _ _ _ _ _)
      | (with_reducible exact pascalineref14_Imports.mono _ _ _)
      | (with_reducible exact pascalineref14_Name.mono _ _)
      | (with_reducible exact pascalineref15_Fits.mono _ _ _ _ _ _ _ _ _ _ _ _ _ _)
      | (with_reducible exact LeO.refl _)
      | (with_reducible exact LeO.none _)
      | (with_reducible refine LeO.ite ?_ ?_)
      | (with_reducible refine LeO.bind ?_ (fun _ => ?_))
      | exact ih0 _ _ _ _ _ _ _ _ _ _ _
      | exact ih1 _ _ _ _ _ _ _ _ _ _ _
      | exact ih2 _ _ _ _ _ _ _ _ _ _ _
      | exact ih3 _ _ _ _ _ _ _ _ _ _ _
      | exact ih4 _ _ _ _ _ _ _ _ _ _ _
      | exact pascalineref14_Imports.mono _ _ _
      | exact pascalineref14_Name.mono _ _
      | exact pascalineref15_Fits.mono _ _ _ _ _ _ _ _ _ _ _ _ _ _
      | exact LeO.none _
      | refine LeO.ite ?_ ?_
      | refine LeO.bind ?_ (fun _ => ?_)
    · intro y0 y1 y2 y3 y4 y5 y6 y7 y8 y9 y10
      unfold pascalineref15_Check.l1
      repeat' first
      | (with_reducible exact ih0 _ _ _ _ _ _ _ _ _ _ _)
      | (with_reducible exact ih1 _ _ _ _ _ _ _ _ _ _ _)
      | (with_reducible exact ih2 _ _ _ _ _ _ _ _ _ _ _)
      | (with_reducible exact ih3 _ _ _ _ _ _ _ _ _ _ _)
      | (with_reducible exact ih4 _ _ _ _ _ _ _ _ _ _ _)
      | (with_reducible exact pascalineref14_Imports.mono _ _ _)
      | (with_reducible exact pascalineref14_Name.mono _ _)
      | (with_reducible exact pascalineref15_Fits.mono _ _ _ _ _ _ _ _ _ _ _ _ _ _)
      | (with_reducible exact LeO.refl _)
      | (with_reducible exact LeO.none _)
      | (with_reducible refine LeO.ite ?_ ?_)
      | (with_reducible refine LeO.bind ?_ (fun _ => ?_))
      | exact ih0 _ _ _ _ _ _ _ _ _ _ _
      | exact ih1 _ _ _ _ _ _ _ _ _ _ _
      | exact ih2 _ _ _ _ _ _ _ _ _ _ _
      | exact ih3 _ _ _ _ _ _ _ _ _ _ _
      | exact ih4 _ _ _ _ _ _ _ _ _ _ _
      | exact pascalineref14_Imports.mono _ _ _
      | exact pascalineref14_Name.mono _ _
      | exact pascalineref15_Fits.mono _ _ _ _ _ _ _ _ _ _ _ _ _ _
      | exact LeO.none _
      | refine LeO.ite ?_ ?_
      | refine LeO.bind ?_ (fun _ => ?_)
theorem pascalineref15_Check.mono : ∀ a0 a1 a2 a3 a4 a5 a6 a7 a8 k, LeO (pascalineref15_Check.f k a0 a1 a2 a3 a4 a5 a6 a7 a8) (pascalineref15_Check.f (k + 1) a0 a1 a2 a3 a4 a5 a6 a7 a8) := by
  intro a0 a1 a2 a3 a4 a5 a6 a7 a8 k
  obtain ⟨ih0, ih1, ih2, ih3, ih4⟩ := pascalineref15_Check.mono_l k
  unfold pascalineref15_Check.f
  repeat' first
      | (with_reducible exact ih0 _ _ _ _ _ _ _ _ _ _ _)
      | (with_reducible exact ih1 _ _ _ _ _ _ _ _ _ _ _)
      | (with_reducible exact ih2 _ _ _ _ _ _ _ _ _ _ _)
      | (with_reducible exact ih3 _ _ _ _ _ _ _ _ _ _ _)
      | (with_reducible exact ih4 _ _ _ _ _ _ _ _ _ _ _)
      | (with_reducible exact pascalineref14_Imports.mono _ _ _)
      | (with_reducible exact pascalineref14_Name.mono _ _)
      | (with_reducible exact pascalineref15_Fits.mono _ _ _ _ _ _ _ _ _ _ _ _ _ _)
      | (with_reducible exact LeO.refl _)
      | (with_reducible exact LeO.none _)
      | (with_reducible refine LeO.ite ?_ ?_)
      | (with_reducible refine LeO.bind ?_ (fun _ => ?_))
      | exact ih0 _ _ _ _ _ _ _ _ _ _ _
      | exact ih1 _ _ _ _ _ _ _ _ _ _ _
      | exact ih2 _ _ _ _ _ _ _ _ _ _ _
      | exact ih3 _ _ _ _ _ _ _ _ _ _ _
      | exact ih4 _ _ _ _ _ _ _ _ _ _ _
      | exact pascalineref14_Imports.mono _ _ _
      | exact pascalineref14_Name.mono _ _
      | exact pascalineref15_Fits.mono _ _ _ _ _ _ _ _ _ _ _ _ _ _
      | exact LeO.none _
      | refine LeO.ite ?_ ?_
      | refine LeO.bind ?_ (fun _ => ?_)
end Go.Proofs.Ytehdhmhpmkkneaa.PAll
