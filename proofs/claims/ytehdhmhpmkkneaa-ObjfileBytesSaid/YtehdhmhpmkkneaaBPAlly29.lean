/- PAlly29. -/
import Derived.Test.YtehdhmhpmkkneaaBPAllx0
import Derived.Test.YtehdhmhpmkkneaaBMi
import Derived.Test.YtehdhmhpmkkneaaBPAlly25
import Derived.Test.YtehdhmhpmkkneaaBPAlly26
import Derived.Test.YtehdhmhpmkkneaaBPAlly27
import Derived.Test.YtehdhmhpmkkneaaBPAlly28
-- Cut by shake.py (what this claim does not use is dropped) from a text that was printed by a turned copy of print.py (which functions: told by hand; relay.sh) out of the translation. Not trusted: Lean checks it.
namespace Go.Proofs.Ytehdhmhpmkkneaa.PAll
open Go.RowKit Go.Proofs.YtehdhmhpmkkneaaW.PrintWords Go.Proofs.YtehdhmhpmkkneaaW.PrintLast Go.Proofs.YtehdhmhpmkkneaaW.PrintMore
attribute [local go_sem] max2_int min2_int max_two min_two max_three min_three max_four min_four   -- for this text's walks alone
set_option linter.unusedVariables false
set_option linter.unusedSimpArgs false
/-! ### pascalineref15_Check: function 37 -/
mutual
def pascalineref15_Check.j0 : Nat → Int → Bool → ByteArray → Int → List (S93) → List Int → List (S134) → List (S131) → Int → Int → Int → Option (Int)
  | 0, _, _, _, _, _, _, _, _, _, _, _ => none
  | k + 1, x4, x38, x311000, x311001, x311002, x311003, x311004, x311005, x311006, x311007, x311008 => if x38 = true then (some 242) else (if x311006 < 0 then (pascalineref15_Check.j1 k x4 true x311000 x311001 x311002 x311003 x311004 x311005 x311006 x311007 x311008) else (if x311006 > 16384 then (pascalineref15_Check.j1 k x4 true x311000 x311001 x311002 x311003 x311004 x311005 x311006 x311007 x311008) else (if x311007 < 0 then (pascalineref15_Check.j1 k x4 true x311000 x311001 x311002 x311003 x311004 x311005 x311006 x311007 x311008) else (pascalineref15_Check.j1 k x4 (decide (x311007 > 4096)) x311000 x311001 x311002 x311003 x311004 x311005 x311006 x311007 x311008))))
def pascalineref15_Check.j1 : Nat → Int → Bool → ByteArray → Int → List (S93) → List Int → List (S134) → List (S131) → Int → Int → Int → Option (Int)
  | 0, _, _, _, _, _, _, _, _, _, _, _ => none
  | k + 1, x4, x56, x311000, x311001, x311002, x311003, x311004, x311005, x311006, x311007, x311008 => if x56 = true then (some 244) else (if x311008 < 0 then (pascalineref15_Check.j2 k x4 true x311000 x311001 x311002 x311003 x311004 x311005 x311006 x311007 x311008) else (if x311008 ≥ x4 then (pascalineref15_Check.j2 k x4 true x311000 x311001 x311002 x311003 x311004 x311005 x311006 x311007 x311008) else (if (x311005.length : Int) = 0 then (pascalineref15_Check.j2 k x4 true x311000 x311001 x311002 x311003 x311004 x311005 x311006 x311007 x311008) else (if 0 < (x311005.length : Int) then (pascalineref15_Check.j2 k x4 (((rd_T131 x311005 0).f0) != 0) x311000 x311001 x311002 x311003 x311004 x311005 x311006 x311007 x311008) else (none)))))
def pascalineref15_Check.j2 : Nat → Int → Bool → ByteArray → Int → List (S93) → List Int → List (S134) → List (S131) → Int → Int → Int → Option (Int)
  | 0, _, _, _, _, _, _, _, _, _, _, _ => none
  | k + 1, x4, x79, x311000, x311001, x311002, x311003, x311004, x311005, x311006, x311007, x311008 => if x79 = true then (some 121) else (pascalineref15_Check.l0 k x4 0 x311000 x311001 x311002 x311003 x311004 x311005 x311006 x311007 x311008)
def pascalineref15_Check.l0 : Nat → Int → Int → ByteArray → Int → List (S93) → List Int → List (S134) → List (S131) → Int → Int → Int → Option (Int)
  | 0, _, _, _, _, _, _, _, _, _, _, _ => none
  | k + 1, x4, x5, x311000, x311001, x311002, x311003, x311004, x311005, x311006, x311007, x311008 => if x5 < (x311005.length : Int) then (if 0 ≤ x5 then (if ((rd_T131 x311005 x5).f0) ≥ x4 then (some 121) else (if ((rd_T131 x311005 x5).f1) < (-1) then (some 121) else (if ((rd_T131 x311005 x5).f1) ≥ x4 then (some 121) else (if x5 > 0 then (if 0 ≤ (wrap64 (x5 - 1)) then (if (wrap64 (x5 - 1)) < (x311005.length : Int) then (if ((rd_T131 x311005 x5).f0) ≤ ((rd_T131 x311005 (wrap64 (x5 - 1))).f0) then (some 121) else (pascalineref15_Check.l0 k x4 (wrap64 (x5 + 1)) x311000 x311001 x311002 x311003 x311004 x311005 x311006 x311007 x311008)) else (none)) else (none)) else (pascalineref15_Check.l0 k x4 (wrap64 (x5 + 1)) x311000 x311001 x311002 x311003 x311004 x311005 x311006 x311007 x311008))))) else (none)) else (pascalineref15_Check.l1 k 0 0 x311000 x311001 x311002 x311003 x311004 x311005 x311006 x311007 x311008)
def pascalineref15_Check.l1 : Nat → Int → Int → ByteArray → Int → List (S93) → List Int → List (S134) → List (S131) → Int → Int → Int → Option (Int)
  | 0, _, _, _, _, _, _, _, _, _, _, _ => none
  | k + 1, x7, x8, x311000, x311001, x311002, x311003, x311004, x311005, x311006, x311007, x311008 => if x8 < (x311004.length : Int) then (if 0 ≤ x8 then ((pascalineref15_Fits.f k x311000 x311001 x311002 x311003 x311004 x311005 x311006 x311007 x311008 ((rd_T134 x311004 x8).f0) ((rd_T134 x311004 x8).f1) ((rd_T134 x311004 x8).f2) ((rd_T134 x311004 x8).f3)).bind fun t319 => (if t319 = true then (if ((rd_T134 x311004 x8).f0) < x7 then (some 121) else ((pascalineref15_Words.f ((rd_T134 x311004 x8).f1)).bind fun t320 => (pascalineref15_Check.l1 k (wrap64 (((rd_T134 x311004 x8).f0) + t320)) (wrap64 (x8 + 1)) x311000 x311001 x311002 x311003 x311004 x311005 x311006 x311007 x311008))) else (some 121))) else (none)) else (some 0)
end
def pascalineref15_Check.f (k : Nat) (a0_0 : ByteArray) (a0_1 : Int) (l0_2 : List (S93)) (l0_3 : List Int) (l0_4 : List (S134)) (l0_5 : List (S131)) (a0_6 : Int) (a0_7 : Int) (a0_8 : Int) : Option (Int) := (pascalineref14_Name.f k a0_0).bind fun t311 => (if t311 = true then ((pascalineref14_Imports.f k a0_0 l0_2).bind fun t312 => (if t312 = 0 then (if (l0_3.length : Int) > 16384 then (pascalineref15_Check.j0 k (l0_3.length : Int) true a0_0 a0_1 l0_2 l0_3 l0_4 l0_5 a0_6 a0_7 a0_8) else (if (l0_4.length : Int) > 16384 then (pascalineref15_Check.j0 k (l0_3.length : Int) true a0_0 a0_1 l0_2 l0_3 l0_4 l0_5 a0_6 a0_7 a0_8) else (pascalineref15_Check.j0 k (l0_3.length : Int) (decide ((l0_5.length : Int) > 16384)) a0_0 a0_1 l0_2 l0_3 l0_4 l0_5 a0_6 a0_7 a0_8))) else (some t312))) else (some 140))
end Go.Proofs.Ytehdhmhpmkkneaa.PAll
